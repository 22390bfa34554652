/- Contracts. -/
import Derived.Test.YtbikicakdkbcgacGreatH1
set_option linter.unusedVariables false
set_option linter.unusedSimpArgs false
namespace Go.Proofs.YtbikicakdkbcgacGreat
open Go Go.RowKit Go.Gv Go.Fl
theorem cells_sub {w : World} {b o : Nat} {cs cs' : List Value} (h : Cells w b o cs) (k n : Nat) (hs : (cs.drop k).take n = cs') : Cells w b (o + k) cs' := fun j v hj => by
  subst hs
  rw [List.getElem?_take] at hj
  split at hj
  · rw [List.getElem?_drop] at hj
    have := h (k + j) v hj
    rwa [← Nat.add_assoc] at this
  · cases hj

theorem okSt_of {s : S4} (h : (0 ≤ s.x ∧ s.x ≤ 100) ∧ (0 ≤ s.y ∧ s.y ≤ 100) ∧ (0 ≤ s.z ∧ s.z ≤ 1000) ∧ 1 ≤ s.m ∧ s.m ≤ 2) : okSt s = true := decide_eq_true h
theorem okSu_of {s : S3} (h : (-100 ≤ s.e ∧ s.e ≤ 100) ∧ (-100 ≤ s.n ∧ s.n ≤ 100) ∧ -100 ≤ s.u ∧ s.u ≤ 100) : okSu s = true := decide_eq_true h
theorem okRg_of {s : WL} (h : okWl s = true) (h2 : s.ba = 0) : okRg s = true := by unfold okRg; rw [h, decide_eq_true h2]; rfl
theorem okCl_of {n : Nat} {c : CL} (h : okWl c.wl = true) (h2 : 0 ≤ c.fr ∧ c.fr ≤ c.to ∧ c.to < (n : Int)) : okCl n c = true := by unfold okCl; rw [h, decide_eq_true h2]; rfl
theorem gd_snoc {α : Type} {G : List α} {d : α} {k : Nat} (hk : k < G.length) : G.take k ++ [G.getD k d] = G.take (k + 1) := by
  rw [List.take_add_one, List.getElem?_eq_getElem hk, List.getD_eq_getElem?_getD, List.getElem?_eq_getElem hk]; rfl
theorem kvx_snoc {kl X : List KV} {k : Nat} {a : Option Addr} {c : Nat} (hk : k < kl.length) (h : X.map KV.xs = (kl.take k).map KV.xs) : (X ++ [(⟨a, c, (kl.getD k kv0).xs⟩ : KV)]).map KV.xs = (kl.take (k + 1)).map KV.xs := by
  rw [← gd_snoc (d := kv0) hk, List.map_append, List.map_append, h]; rfl
def OwnsK (w : World) (B el : Nat) (l : List KV) : Prop := ∀ p ∈ l, w.ownsRow B el 8 (.slice p.a p.xs.length p.c) p.xs.length (p.xs.flatMap CL.enc)
section
variable {w w' : World} {B el : Nat} {l : List KV}
theorem OwnsK.ext (h : OwnsK w B el l) (hg : Ext w w') : OwnsK w' B el l := fun s hs => own_ext (h s hs) hg
theorem OwnsK.rows (h : OwnsK w B el l) : RowsK w l := fun s hs => Row.of_owns (h s hs)
theorem OwnsK.nil (w : World) (B el : Nat) : OwnsK w B el [] := fun _ h => by simp at h
theorem OwnsK.snoc {p : KV} (h : OwnsK w B el l) (hs : w.ownsRow B el 8 (.slice p.a p.xs.length p.c) p.xs.length (p.xs.flatMap CL.enc)) : OwnsK w B el (l ++ [p]) := fun x hx => by
  rcases List.mem_append.1 hx with h1 | h1
  · exact h x h1
  · obtain rfl : x = p := by simpa using h1
    exact hs
theorem OwnsK.kept {base' e' size' n' : Nat} {v' : Value} {xs' : List Value} (h : OwnsK w B el l) (h' : w.ownsRow base' e' size' v' n' xs') (hne : el ≠ e') (hG : w.grownBy w' v'.ownBlock) : OwnsK w' B el l := fun s hs => own_kept (h s hs) h' hne hG
theorem OwnsK.tyupd {b T : Nat} (h : OwnsK w B el l) (ht : TyAt w b T) (hG : w.grownBy w' (some b)) (hne : el ≠ T) : OwnsK w' B el l := fun s hs => own_ty_upd (h s hs) ht hG hne
end

theorem fld67_0 (w : World) (b o : Nat) : (Instr.fieldAt 67 (ptr b o) 0).run Tryz.prog w = .ok (ptr b (o + 0)) w := by
  simp [Instr.fieldAt, run_underlying Tryz.underlying67, fieldPlace, Instr.sureAddr, Tryz.sizeOf3, Addr.add_lit]
theorem fld67_1 (w : World) (b o : Nat) : (Instr.fieldAt 67 (ptr b o) 1).run Tryz.prog w = .ok (ptr b (o + 1)) w := by
  simp [Instr.fieldAt, run_underlying Tryz.underlying67, fieldPlace, Instr.sureAddr, Tryz.sizeOf3, Addr.add_lit]
theorem fld67_2 (w : World) (b o : Nat) : (Instr.fieldAt 67 (ptr b o) 2).run Tryz.prog w = .ok (ptr b (o + 2)) w := by
  simp [Instr.fieldAt, run_underlying Tryz.underlying67, fieldPlace, Instr.sureAddr, Tryz.sizeOf3, Addr.add_lit]
theorem fld67_3 (w : World) (b o : Nat) : (Instr.fieldAt 67 (ptr b o) 3).run Tryz.prog w = .ok (ptr b (o + 3)) w := by
  simp [Instr.fieldAt, run_underlying Tryz.underlying67, fieldPlace, Instr.sureAddr, Tryz.sizeOf3, Addr.add_lit]
theorem fld67_4 (w : World) (b o : Nat) : (Instr.fieldAt 67 (ptr b o) 4).run Tryz.prog w = .ok (ptr b (o + 4)) w := by
  simp [Instr.fieldAt, run_underlying Tryz.underlying67, fieldPlace, Instr.sureAddr, Tryz.sizeOf3, Addr.add_lit]
theorem fld67_5 (w : World) (b o : Nat) : (Instr.fieldAt 67 (ptr b o) 5).run Tryz.prog w = .ok (ptr b (o + 5)) w := by
  simp [Instr.fieldAt, run_underlying Tryz.underlying67, fieldPlace, Instr.sureAddr, Tryz.sizeOf3, Addr.add_lit]
theorem fld27_0 (w : World) (b o : Nat) : (Instr.fieldAt 27 (ptr b o) 0).run Tryz.prog w = .ok (ptr b (o + 0)) w := by
  simp [Instr.fieldAt, run_underlying Tryz.underlying27, fieldPlace, Instr.sureAddr, Tryz.sizeOf22, Addr.add_lit]
theorem fld27_1 (w : World) (b o : Nat) : (Instr.fieldAt 27 (ptr b o) 1).run Tryz.prog w = .ok (ptr b (o + 1)) w := by
  simp [Instr.fieldAt, run_underlying Tryz.underlying27, fieldPlace, Instr.sureAddr, Tryz.sizeOf23, Addr.add_lit]
theorem fld27_2 (w : World) (b o : Nat) : (Instr.fieldAt 27 (ptr b o) 2).run Tryz.prog w = .ok (ptr b (o + 2)) w := by
  simp [Instr.fieldAt, run_underlying Tryz.underlying27, fieldPlace, Instr.sureAddr, Tryz.sizeOf24, Addr.add_lit]
theorem fld27_3 (w : World) (b o : Nat) : (Instr.fieldAt 27 (ptr b o) 3).run Tryz.prog w = .ok (ptr b (o + 3)) w := by
  simp [Instr.fieldAt, run_underlying Tryz.underlying27, fieldPlace, Instr.sureAddr, Tryz.sizeOf25, Addr.add_lit]
theorem fld63_0 (w : World) (b o : Nat) : (Instr.fieldAt 63 (ptr b o) 0).run Tryz.prog w = .ok (ptr b (o + 0)) w := by
  simp [Instr.fieldAt, run_underlying Tryz.underlying63, fieldPlace, Instr.sureAddr, Tryz.sizeOf3, Addr.add_lit]
theorem fld63_1 (w : World) (b o : Nat) : (Instr.fieldAt 63 (ptr b o) 1).run Tryz.prog w = .ok (ptr b (o + 1)) w := by
  simp [Instr.fieldAt, run_underlying Tryz.underlying63, fieldPlace, Instr.sureAddr, Tryz.sizeOf3, Addr.add_lit]
theorem fld63_2 (w : World) (b o : Nat) : (Instr.fieldAt 63 (ptr b o) 2).run Tryz.prog w = .ok (ptr b (o + 2)) w := by
  simp [Instr.fieldAt, run_underlying Tryz.underlying63, fieldPlace, Instr.sureAddr, Tryz.sizeOf3, Addr.add_lit]
theorem fld63_3 (w : World) (b o : Nat) : (Instr.fieldAt 63 (ptr b o) 3).run Tryz.prog w = .ok (ptr b (o + 3)) w := by
  simp [Instr.fieldAt, run_underlying Tryz.underlying63, fieldPlace, Instr.sureAddr, Tryz.sizeOf3, Addr.add_lit]
theorem fld69_0 (w : World) (b o : Nat) : (Instr.fieldAt 69 (ptr b o) 0).run Tryz.prog w = .ok (ptr b (o + 0)) w := by
  simp [Instr.fieldAt, run_underlying Tryz.underlying69, fieldPlace, Instr.sureAddr, Tryz.sizeOf67, Addr.add_lit]
theorem fld69_1 (w : World) (b o : Nat) : (Instr.fieldAt 69 (ptr b o) 1).run Tryz.prog w = .ok (ptr b (o + 6)) w := by
  simp [Instr.fieldAt, run_underlying Tryz.underlying69, fieldPlace, Instr.sureAddr, Tryz.sizeOf3, Addr.add_lit]
theorem fld69_2 (w : World) (b o : Nat) : (Instr.fieldAt 69 (ptr b o) 2).run Tryz.prog w = .ok (ptr b (o + 7)) w := by
  simp [Instr.fieldAt, run_underlying Tryz.underlying69, fieldPlace, Instr.sureAddr, Tryz.sizeOf3, Addr.add_lit]
theorem fld71_0 (w : World) (b o : Nat) : (Instr.fieldAt 71 (ptr b o) 0).run Tryz.prog w = .ok (ptr b (o + 0)) w := by
  simp [Instr.fieldAt, run_underlying Tryz.underlying71, fieldPlace, Instr.sureAddr, Tryz.sizeOf3, Addr.add_lit]
theorem fld71_1 (w : World) (b o : Nat) : (Instr.fieldAt 71 (ptr b o) 1).run Tryz.prog w = .ok (ptr b (o + 1)) w := by
  simp [Instr.fieldAt, run_underlying Tryz.underlying71, fieldPlace, Instr.sureAddr, Tryz.sizeOf3, Addr.add_lit]
theorem fld71_2 (w : World) (b o : Nat) : (Instr.fieldAt 71 (ptr b o) 2).run Tryz.prog w = .ok (ptr b (o + 2)) w := by
  simp [Instr.fieldAt, run_underlying Tryz.underlying71, fieldPlace, Instr.sureAddr, Tryz.sizeOf3, Addr.add_lit]
theorem el103 : Elem Tryz.prog 103 (.agg ⟨[vint 0, vint 0, vint 0, vint 0, vint 0, vint 0, vint 0, vint 0]⟩) 8 64 := elem_of (by kernel_rfl) rfl (by decide)
theorem el72 : Elem Tryz.prog 72 (.agg ⟨[vint 0, vint 0, vint 0, vint 0]⟩) 4 32 := elem_of (by kernel_rfl) rfl (by decide)
theorem el83 : Elem Tryz.prog 83 (.agg ⟨[vint 0, vint 0, vint 0, vint 0, vint 0, vint 0]⟩) 6 48 := elem_of (by kernel_rfl) rfl (by decide)
theorem el85 : Elem Tryz.prog 85 (.slice none 0 0) 1 24 := elem_of (by kernel_rfl) rfl (by decide)
theorem el73 : Elem Tryz.prog 73 (.agg ⟨[vint 0, vint 0, vint 0]⟩) 3 24 := elem_of (by kernel_rfl) rfl (by decide)
theorem isWall_ret (s : WL) (w : World) : Ret Tryz.prog 17 [.agg ⟨[vint s.x1, vint s.y1, vint s.x2, vint s.y2, vint s.ba, vint s.tp]⟩] w (fun v w' => v = .bool (okWl s) ∧ Ext w w') := by
 have hB := Below.refl w.heap.size w
 have hsz : w.heap.size ≤ w.heap.size := Nat.le_refl _
 refine ret_of_runs (args := [_]) Tryz.func17 rfl (Nat.le_of_ble_eq_true rfl) (by kernel_rfl) (r_seq (r_region' (l_o (o_box rfl rfl rfl ?_))))
 intro b1 w1 hzl1 hzr1 _ hb1 hE1
 have hbs_b1 : w.heap.size ≤ b1 := Nat.le_trans hsz hzl1
 replace hB := below_ext hB hE1 hsz
 replace hsz := Nat.le_trans hsz hE1.size
 refine l_q (qab rfl rfl) (l_nil (r_seq (r_region' (l_q (q_fieldAddr (o' := 0) rfl fld67_0 rfl) (l_q (q_load Tryz.isAgg3 rfl ((hb1.has (o := 0) rfl)) rfl) (l_o (o_call Tryz.call16 rfl (in1_ret _ _ _ _) rfl ?_)))))))
 rintro _ w2 ⟨rfl, rfl⟩
 refine l_q (qmb rfl rfl) (l_part 6 rfl (fun hc3 => ?_) (fun hc3 => ?_))
 ·
  replace hc3 := b2t hc3
  refine l_q (q_fieldAddr (o' := 1) rfl fld67_1 rfl) (l_q (q_load Tryz.isAgg3 rfl ((hb1.has (o := 1) rfl)) rfl) (l_o (o_call Tryz.call16 rfl (in1_ret _ _ _ _) rfl ?_)))
  rintro _ w4 ⟨rfl, rfl⟩
  refine l_q (q_pick_t (v := .bool _) rfl rfl rfl) (l_q (qmb rfl rfl) (l_part 11 rfl (fun hc5 => ?_) (fun hc5 => ?_)))
  ·
   replace hc5 := b2t hc5
   refine l_q (q_fieldAddr (o' := 2) rfl fld67_2 rfl) (l_q (q_load Tryz.isAgg3 rfl ((hb1.has (o := 2) rfl)) rfl) (l_o (o_call Tryz.call16 rfl (in1_ret _ _ _ _) rfl ?_)))
   rintro _ w6 ⟨rfl, rfl⟩
   refine l_q (q_pick_t (v := .bool _) rfl rfl rfl) (l_q (qmb rfl rfl) (l_part 16 rfl (fun hc7 => ?_) (fun hc7 => ?_)))
   ·
    replace hc7 := b2t hc7
    refine l_q (q_fieldAddr (o' := 3) rfl fld67_3 rfl) (l_q (q_load Tryz.isAgg3 rfl ((hb1.has (o := 3) rfl)) rfl) (l_o (o_call Tryz.call16 rfl (in1_ret _ _ _ _) rfl ?_)))
    rintro _ w8 ⟨rfl, rfl⟩
    refine l_q (q_pick_t (v := .bool _) rfl rfl rfl) (l_q (qmb rfl rfl) (l_part 21 rfl (fun hc9 => ?_) (fun hc9 => ?_)))
    ·
     replace hc9 := b2t hc9
     refine l_q (q_fieldAddr (o' := 0) rfl fld67_0 rfl) (l_q (q_load Tryz.isAgg3 rfl ((hb1.has (o := 0) rfl)) rfl) (l_q (q_fieldAddr (o' := 2) rfl fld67_2 rfl) (l_q (q_load Tryz.isAgg3 rfl ((hb1.has (o := 2) rfl)) rfl) (l_q (q_neq rfl rfl rfl) (l_q (qmb rfl rfl) (l_part 27 rfl (fun hc10 => ?_) (fun hc10 => ?_)))))))
     ·
      replace hc10 := df (nt hc10)
      refine l_q (q_skip rfl) (l_q (q_skip rfl) (l_q (q_skip rfl) (l_q (q_skip rfl) (l_q (q_skip rfl) (l_q (q_pick_t (v := .bool _) rfl rfl rfl) (l_q (q_pick_t (v := .bool _) rfl rfl rfl) (l_q (qmb rfl rfl) (l_q (q_fieldAddr (o' := 4) rfl fld67_4 rfl) (l_q (q_load Tryz.isAgg3 rfl ((hb1.has (o := 4) rfl)) rfl) (l_q (q_fieldAddr (o' := 5) rfl fld67_5 rfl) (l_q (q_load Tryz.isAgg3 rfl ((hb1.has (o := 5) rfl)) rfl) (l_o (o_call Tryz.call16 rfl (in1_ret _ _ _ _) rfl ?_)))))))))))))
      rintro _ w11 ⟨rfl, rfl⟩
      refine l_q (q_pick_t (v := .bool _) rfl rfl rfl) (l_q (qmb rfl rfl) (l_part 42 rfl (fun hc12 => ?_) (fun hc12 => ?_)))
      ·
       replace hc12 := b2t hc12
       refine l_q (q_fieldAddr (o' := 5) rfl fld67_5 rfl) (l_q (q_load Tryz.isAgg3 rfl ((hb1.has (o := 5) rfl)) rfl) (l_q (q_leq rfl rfl rfl) (l_q (q_pick_t (v := .bool _) rfl rfl rfl) (l_q (qab rfl rfl) (l_nil (r_forget [(2, .bool _)] ⟨rfl, trivial⟩ (fun e13 => (r_ret_ (vs := [.bool _]) rfl Tryz.func17 rfl (.nil _) ⟨rfl, trivial⟩ ?_))))))))
       exact ⟨vbool_eq (by symm; unfold okWl; first | (apply decide_eq_true; simp at *; omega) | (apply decide_eq_false; simp at *; omega) | (rw [Bool.eq_iff_iff]; simp at * <;> omega)), Ext.of_below hB⟩
      ·
       replace hc12 := b2f hc12
       refine l_q (q_skip rfl) (l_q (q_skip rfl) (l_q (q_skip rfl) (l_q (q_pick_f (v := .bool _) rfl rfl rfl) (l_q (qab rfl rfl) (l_nil (r_forget [(2, .bool _)] ⟨rfl, trivial⟩ (fun e14 => (r_ret_ (vs := [.bool _]) rfl Tryz.func17 rfl (.nil _) ⟨rfl, trivial⟩ ?_))))))))
       exact ⟨vbool_eq (by symm; unfold okWl; first | (apply decide_eq_true; simp at *; omega) | (apply decide_eq_false; simp at *; omega) | (rw [Bool.eq_iff_iff]; simp at * <;> omega)), Ext.of_below hB⟩
     ·
      replace hc10 := dt (nf hc10)
      refine l_q (q_fieldAddr (o' := 1) rfl fld67_1 rfl) (l_q (q_load Tryz.isAgg3 rfl ((hb1.has (o := 1) rfl)) rfl) (l_q (q_fieldAddr (o' := 3) rfl fld67_3 rfl) (l_q (q_load Tryz.isAgg3 rfl ((hb1.has (o := 3) rfl)) rfl) (l_q (q_neq rfl rfl rfl) (l_q (q_pick_f (v := .bool _) rfl rfl rfl) (l_q (q_pick_t (v := .bool _) rfl rfl rfl) (l_q (qmb rfl rfl) (l_part 35 rfl (fun hc15 => ?_) (fun hc15 => ?_)))))))))
      ·
       replace hc15 := df (nt hc15)
       refine l_q (q_fieldAddr (o' := 4) rfl fld67_4 rfl) (l_q (q_load Tryz.isAgg3 rfl ((hb1.has (o := 4) rfl)) rfl) (l_q (q_fieldAddr (o' := 5) rfl fld67_5 rfl) (l_q (q_load Tryz.isAgg3 rfl ((hb1.has (o := 5) rfl)) rfl) (l_o (o_call Tryz.call16 rfl (in1_ret _ _ _ _) rfl ?_)))))
       rintro _ w16 ⟨rfl, rfl⟩
       refine l_q (q_pick_t (v := .bool _) rfl rfl rfl) (l_q (qmb rfl rfl) (l_part 42 rfl (fun hc17 => ?_) (fun hc17 => ?_)))
       ·
        replace hc17 := b2t hc17
        refine l_q (q_fieldAddr (o' := 5) rfl fld67_5 rfl) (l_q (q_load Tryz.isAgg3 rfl ((hb1.has (o := 5) rfl)) rfl) (l_q (q_leq rfl rfl rfl) (l_q (q_pick_t (v := .bool _) rfl rfl rfl) (l_q (qab rfl rfl) (l_nil (r_forget [(2, .bool _)] ⟨rfl, trivial⟩ (fun e18 => (r_ret_ (vs := [.bool _]) rfl Tryz.func17 rfl (.nil _) ⟨rfl, trivial⟩ ?_))))))))
        exact ⟨vbool_eq (by symm; unfold okWl; first | (apply decide_eq_true; simp at *; omega) | (apply decide_eq_false; simp at *; omega) | (rw [Bool.eq_iff_iff]; simp at * <;> omega)), Ext.of_below hB⟩
       ·
        replace hc17 := b2f hc17
        refine l_q (q_skip rfl) (l_q (q_skip rfl) (l_q (q_skip rfl) (l_q (q_pick_f (v := .bool _) rfl rfl rfl) (l_q (qab rfl rfl) (l_nil (r_forget [(2, .bool _)] ⟨rfl, trivial⟩ (fun e19 => (r_ret_ (vs := [.bool _]) rfl Tryz.func17 rfl (.nil _) ⟨rfl, trivial⟩ ?_))))))))
        exact ⟨vbool_eq (by symm; unfold okWl; first | (apply decide_eq_true; simp at *; omega) | (apply decide_eq_false; simp at *; omega) | (rw [Bool.eq_iff_iff]; simp at * <;> omega)), Ext.of_below hB⟩
      ·
       replace hc15 := dt (nf hc15)
       refine l_q (q_skip rfl) (l_q (q_skip rfl) (l_q (q_skip rfl) (l_q (q_skip rfl) (l_q (q_skip rfl) (l_q (q_pick_f (v := .bool _) rfl rfl rfl) (l_q (qmb rfl rfl) (l_q (q_skip rfl) (l_q (q_skip rfl) (l_q (q_skip rfl) (l_q (q_pick_f (v := .bool _) rfl rfl rfl) (l_q (qab rfl rfl) (l_nil (r_forget [(2, .bool _)] ⟨rfl, trivial⟩ (fun e20 => (r_ret_ (vs := [.bool _]) rfl Tryz.func17 rfl (.nil _) ⟨rfl, trivial⟩ ?_)))))))))))))))
       exact ⟨vbool_eq (by symm; unfold okWl; first | (apply decide_eq_true; simp at *; omega) | (apply decide_eq_false; simp at *; omega) | (rw [Bool.eq_iff_iff]; simp at * <;> omega)), Ext.of_below hB⟩
    ·
     replace hc9 := b2f hc9
     refine l_q (q_skip rfl) (l_q (q_skip rfl) (l_q (q_skip rfl) (l_q (q_skip rfl) (l_q (q_skip rfl) (l_q (q_skip rfl) (l_q (q_skip rfl) (l_q (q_skip rfl) (l_q (q_skip rfl) (l_q (q_skip rfl) (l_q (q_skip rfl) (l_q (q_skip rfl) (l_q (q_pick_f (v := .bool _) rfl rfl rfl) (l_q (qmb rfl rfl) (l_q (q_skip rfl) (l_q (q_skip rfl) (l_q (q_skip rfl) (l_q (q_skip rfl) (l_q (q_skip rfl) (l_q (q_pick_f (v := .bool _) rfl rfl rfl) (l_q (qmb rfl rfl) (l_q (q_skip rfl) (l_q (q_skip rfl) (l_q (q_skip rfl) (l_q (q_pick_f (v := .bool _) rfl rfl rfl) (l_q (qab rfl rfl) (l_nil (r_forget [(2, .bool _)] ⟨rfl, trivial⟩ (fun e21 => (r_ret_ (vs := [.bool _]) rfl Tryz.func17 rfl (.nil _) ⟨rfl, trivial⟩ ?_)))))))))))))))))))))))))))))
     exact ⟨vbool_eq (by symm; unfold okWl; first | (apply decide_eq_true; simp at *; omega) | (apply decide_eq_false; simp at *; omega) | (rw [Bool.eq_iff_iff]; simp at * <;> omega)), Ext.of_below hB⟩
   ·
    replace hc7 := b2f hc7
    refine l_q (q_skip rfl) (l_q (q_skip rfl) (l_q (q_skip rfl) (l_q (q_pick_f (v := .bool _) rfl rfl rfl) (l_q (qmb rfl rfl) (l_q (q_skip rfl) (l_q (q_skip rfl) (l_q (q_skip rfl) (l_q (q_skip rfl) (l_q (q_skip rfl) (l_q (q_skip rfl) (l_q (q_skip rfl) (l_q (q_skip rfl) (l_q (q_skip rfl) (l_q (q_skip rfl) (l_q (q_skip rfl) (l_q (q_skip rfl) (l_q (q_pick_f (v := .bool _) rfl rfl rfl) (l_q (qmb rfl rfl) (l_q (q_skip rfl) (l_q (q_skip rfl) (l_q (q_skip rfl) (l_q (q_skip rfl) (l_q (q_skip rfl) (l_q (q_pick_f (v := .bool _) rfl rfl rfl) (l_q (qmb rfl rfl) (l_q (q_skip rfl) (l_q (q_skip rfl) (l_q (q_skip rfl) (l_q (q_pick_f (v := .bool _) rfl rfl rfl) (l_q (qab rfl rfl) (l_nil (r_forget [(2, .bool _)] ⟨rfl, trivial⟩ (fun e22 => (r_ret_ (vs := [.bool _]) rfl Tryz.func17 rfl (.nil _) ⟨rfl, trivial⟩ ?_))))))))))))))))))))))))))))))))))
    exact ⟨vbool_eq (by symm; unfold okWl; first | (apply decide_eq_true; simp at *; omega) | (apply decide_eq_false; simp at *; omega) | (rw [Bool.eq_iff_iff]; simp at * <;> omega)), Ext.of_below hB⟩
  ·
   replace hc5 := b2f hc5
   refine l_q (q_skip rfl) (l_q (q_skip rfl) (l_q (q_skip rfl) (l_q (q_pick_f (v := .bool _) rfl rfl rfl) (l_q (qmb rfl rfl) (l_q (q_skip rfl) (l_q (q_skip rfl) (l_q (q_skip rfl) (l_q (q_pick_f (v := .bool _) rfl rfl rfl) (l_q (qmb rfl rfl) (l_q (q_skip rfl) (l_q (q_skip rfl) (l_q (q_skip rfl) (l_q (q_skip rfl) (l_q (q_skip rfl) (l_q (q_skip rfl) (l_q (q_skip rfl) (l_q (q_skip rfl) (l_q (q_skip rfl) (l_q (q_skip rfl) (l_q (q_skip rfl) (l_q (q_skip rfl) (l_q (q_pick_f (v := .bool _) rfl rfl rfl) (l_q (qmb rfl rfl) (l_q (q_skip rfl) (l_q (q_skip rfl) (l_q (q_skip rfl) (l_q (q_skip rfl) (l_q (q_skip rfl) (l_q (q_pick_f (v := .bool _) rfl rfl rfl) (l_q (qmb rfl rfl) (l_q (q_skip rfl) (l_q (q_skip rfl) (l_q (q_skip rfl) (l_q (q_pick_f (v := .bool _) rfl rfl rfl) (l_q (qab rfl rfl) (l_nil (r_forget [(2, .bool _)] ⟨rfl, trivial⟩ (fun e23 => ?_))))))))))))))))))))))))))))))))))))))
   refine r_ret_ (vs := [.bool _]) rfl Tryz.func17 rfl (.nil _) ⟨rfl, trivial⟩ ?_
   exact ⟨vbool_eq (by symm; unfold okWl; first | (apply decide_eq_true; simp at *; omega) | (apply decide_eq_false; simp at *; omega) | (rw [Bool.eq_iff_iff]; simp at * <;> omega)), Ext.of_below hB⟩
 ·
  replace hc3 := b2f hc3
  refine l_q (q_skip rfl) (l_q (q_skip rfl) (l_q (q_skip rfl) (l_q (q_pick_f (v := .bool _) rfl rfl rfl) (l_q (qmb rfl rfl) (l_q (q_skip rfl) (l_q (q_skip rfl) (l_q (q_skip rfl) (l_q (q_pick_f (v := .bool _) rfl rfl rfl) (l_q (qmb rfl rfl) (l_q (q_skip rfl) (l_q (q_skip rfl) (l_q (q_skip rfl) (l_q (q_pick_f (v := .bool _) rfl rfl rfl) (l_q (qmb rfl rfl) (l_q (q_skip rfl) (l_q (q_skip rfl) (l_q (q_skip rfl) (l_q (q_skip rfl) (l_q (q_skip rfl) (l_q (q_skip rfl) (l_q (q_skip rfl) (l_q (q_skip rfl) (l_q (q_skip rfl) (l_q (q_skip rfl) (l_q (q_skip rfl) (l_q (q_skip rfl) (l_q (q_pick_f (v := .bool _) rfl rfl rfl) (l_q (qmb rfl rfl) (l_q (q_skip rfl) (l_q (q_skip rfl) (l_q (q_skip rfl) (l_q (q_skip rfl) (l_q (q_skip rfl) (l_q (q_pick_f (v := .bool _) rfl rfl rfl) (l_q (qmb rfl rfl) (l_q (q_skip rfl) (l_q (q_skip rfl) (l_q (q_skip rfl) (l_q (q_pick_f (v := .bool _) rfl rfl rfl) (l_q (qab rfl rfl) ?_))))))))))))))))))))))))))))))))))))))))
  refine l_nil (r_forget [(2, .bool _)] ⟨rfl, trivial⟩ (fun e24 => (r_ret_ (vs := [.bool _]) rfl Tryz.func17 rfl (.nil _) ⟨rfl, trivial⟩ ?_)))
  exact ⟨vbool_eq (by symm; unfold okWl; first | (apply decide_eq_true; simp at *; omega) | (apply decide_eq_false; simp at *; omega) | (rw [Bool.eq_iff_iff]; simp at * <;> omega)), Ext.of_below hB⟩
set_option maxHeartbeats 1000000 in
theorem fault1_ret (sa : Option Addr) (sc : Nat) (sl : List S4) (ra : Option Addr) (rc : Nat) (rl : List WL) (ka : Option Addr) (kc : Nat) (kl : List KV) (ua : Option Addr) (uc : Nat) (ul : List S3) (w : World) (hla : LandAt w sa sc sl ra rc rl ka kc kl ua uc ul) (hlb : LaBig sl rl kl ul) : Ret Tryz.prog 5 [.agg ⟨[.slice sa sl.length sc, .slice ra rl.length rc, .slice ka kl.length kc, .slice ua ul.length uc]⟩] w (fun v w' => ∃ r, v = vint r ∧ (r = 0 → OkL sl rl kl ul) ∧ Ext w w') := by
 obtain ⟨hbs, hbr, hbk, hbu, hbc⟩ := hlb
 have hB := Below.refl w.heap.size w
 have hsz : w.heap.size ≤ w.heap.size := Nat.le_refl _
 refine ret_of_runs (args := [_]) Tryz.func5 rfl (Nat.le_of_ble_eq_true rfl) (by kernel_rfl) (r_seq (r_region' (l_o (o_box rfl rfl rfl ?_))))
 intro b1 w1 hzl1 hzr1 _ hb1 hE1
 have hbs_b1 : w.heap.size ≤ b1 := Nat.le_trans hsz hzl1
 replace hB := below_ext hB hE1 hsz
 replace hsz := Nat.le_trans hsz hE1.size
 refine l_q (qai rfl rfl) (l_nil (r_seq (r_seq (r_region' (l_q (q_fieldAddr (o' := 0) rfl fld27_0 rfl) (l_q (q_load Tryz.isAgg22 rfl ((hb1.has (o := 0) rfl)) rfl) (l_q (q_len rfl Tryz.underlying22 rfl rfl) (l_q (q_gtr rfl rfl rfl) (l_q (qmb rfl rfl) (l_part 17 rfl (fun hc2 => ?_) (fun hc2 => ?_)))))))))))
 ·
  replace hc2 := dt hc2
  refine l_q (q_skip rfl) (l_q (q_skip rfl) (l_q (q_skip rfl) (l_q (q_skip rfl) (l_q (q_pick_t (v := .bool _) rfl rfl rfl) (l_q (qmb rfl rfl) (l_q (q_skip rfl) (l_q (q_skip rfl) (l_q (q_skip rfl) (l_q (q_skip rfl) (l_q (q_pick_t (v := .bool _) rfl rfl rfl) (l_q (qmb rfl rfl) (l_q (q_skip rfl) (l_q (q_skip rfl) (l_q (q_skip rfl) (l_q (q_skip rfl) (l_q (q_pick_t (v := .bool _) rfl rfl rfl) (l_nil (r_forget [(1, .pointer _), (34, .bool _)] ⟨rfl, rfl, trivial⟩ (fun e3 => (r_cond_t rfl (r_seq (r_region' (l_q (qai rfl rfl) (l_nil (r_ret_ (vs := [.int _ _]) rfl Tryz.func5 rfl (.nil _) ⟨rfl, trivial⟩ ?_)))))))))))))))))))))))))
  exact ⟨3, rfl, fun h => absurd h (by decide), Ext.of_below hB⟩
 ·
  replace hc2 := dlt hc2
  refine l_q (q_fieldAddr (o' := 1) rfl fld27_1 rfl) (l_q (q_load Tryz.isAgg23 rfl ((hb1.has (o := 1) rfl)) rfl) (l_q (q_len rfl Tryz.underlying23 rfl rfl) (l_q (q_gtr rfl rfl rfl) (l_q (q_pick_f (v := .bool _) rfl rfl rfl) (l_q (qmb rfl rfl) (l_part 23 rfl (fun hc4 => ?_) (fun hc4 => ?_)))))))
  ·
   replace hc4 := dt hc4
   refine l_q (q_skip rfl) (l_q (q_skip rfl) (l_q (q_skip rfl) (l_q (q_skip rfl) (l_q (q_pick_t (v := .bool _) rfl rfl rfl) (l_q (qmb rfl rfl) (l_q (q_skip rfl) (l_q (q_skip rfl) (l_q (q_skip rfl) (l_q (q_skip rfl) (l_q (q_pick_t (v := .bool _) rfl rfl rfl) (l_nil (r_forget [(1, .pointer _), (34, .bool _)] ⟨rfl, rfl, trivial⟩ (fun e5 => (r_cond_t rfl (r_seq (r_region' (l_q (qai rfl rfl) (l_nil (r_ret_ (vs := [.int _ _]) rfl Tryz.func5 rfl (.nil _) ⟨rfl, trivial⟩ ?_)))))))))))))))))))
   exact ⟨3, rfl, fun h => absurd h (by decide), Ext.of_below hB⟩
  ·
   replace hc4 := dlt hc4
   refine l_q (q_fieldAddr (o' := 2) rfl fld27_2 rfl) (l_q (q_load Tryz.isAgg24 rfl ((hb1.has (o := 2) rfl)) rfl) (l_q (q_len rfl Tryz.underlying24 rfl rfl) (l_q (q_gtr rfl rfl rfl) (l_q (q_pick_f (v := .bool _) rfl rfl rfl) (l_q (qmb rfl rfl) (l_part 29 rfl (fun hc6 => ?_) (fun hc6 => ?_)))))))
   ·
    replace hc6 := dt hc6
    refine l_q (q_skip rfl) (l_q (q_skip rfl) (l_q (q_skip rfl) (l_q (q_skip rfl) (l_q (q_pick_t (v := .bool _) rfl rfl rfl) (l_nil (r_forget [(1, .pointer _), (34, .bool _)] ⟨rfl, rfl, trivial⟩ (fun e7 => (r_cond_t rfl (r_seq (r_region' (l_q (qai rfl rfl) (l_nil (r_ret_ (vs := [.int _ _]) rfl Tryz.func5 rfl (.nil _) ⟨rfl, trivial⟩ ?_)))))))))))))
    exact ⟨3, rfl, fun h => absurd h (by decide), Ext.of_below hB⟩
   ·
    replace hc6 := dlt hc6
    refine l_q (q_fieldAddr (o' := 3) rfl fld27_3 rfl) (l_q (q_load Tryz.isAgg25 rfl ((hb1.has (o := 3) rfl)) rfl) (l_q (q_len rfl Tryz.underlying25 rfl rfl) (l_q (q_gtr rfl rfl rfl) (l_q (q_pick_f (v := .bool _) rfl rfl rfl) (l_nil (r_forget [(1, .pointer _), (34, .bool _)] ⟨rfl, rfl, trivial⟩ (fun e8 => (r_cond rfl (fun hc9 => ?_) (fun hc9 => ?_)))))))))
    ·
     replace hc9 := dt hc9
     refine r_seq (r_region' (l_q (qai rfl rfl) (l_nil (r_ret_ (vs := [.int _ _]) rfl Tryz.func5 rfl (.nil _) ⟨rfl, trivial⟩ ?_))))
     exact ⟨3, rfl, fun h => absurd h (by decide), Ext.of_below hB⟩
    ·
     replace hc9 := dlt hc9
     refine r_skip (r_seq (r_seq (r_region' (l_q (qai rfl rfl) (l_nil (r_block (r_rounds (α := Nat) (fun i e wl => Knows e [(1, ptr b1 0), (3, vint (i : Int))] ∧ (i ≤ kl.length) ∧ (∀ j, j < i → (kl.getD j kv0).xs.length ≤ 4) ∧ (Blk wl b1 [.slice sa sl.length sc, .slice ra rl.length rc, .slice ka kl.length kc, .slice ua ul.length uc]) ∧ (w.heap.size ≤ wl.heap.size) ∧ (Below w.heap.size w wl)) (fun i => kl.length - i) 0 ?_ ?_)))))))
     ·
      exact ⟨⟨rfl, rfl, trivial⟩, (Nat.zero_le _), (fun i hi => absurd hi (Nat.not_lt_zero _)), hb1, hsz, hB⟩
     ·
      rintro i el10 wl10 ⟨hkn, hki, hfew, hb1, hsz, hB⟩ ih10
      obtain ⟨e10, rfl⟩ := knows_env hkn
      refine r_seq (r_seq (r_region' (l_q (qmi rfl rfl) (l_q (q_fieldAddr (o' := 2) rfl fld27_2 rfl) (l_q (q_load Tryz.isAgg24 rfl ((hb1.has (o := 2) rfl)) rfl) (l_q (q_len rfl Tryz.underlying24 rfl rfl) (l_q (q_lss rfl rfl rfl) (l_nil (r_cond rfl (fun hc11 => ?_) (fun hc11 => ?_))))))))))
      ·
       replace hc11 := dt hc11
       have hik : i < kl.length := by omega
       refine r_skip (r_seq (r_block (r_seq (r_region' (l_q (q_fieldAddr (o' := 2) rfl fld27_2 rfl) (l_q (q_load Tryz.isAgg24 rfl ((hb1.has (o := 2) rfl)) rfl) (l_q (qmi rfl rfl) ?_)))))))
       obtain ⟨b12, o12, ha12, hh12⟩ := (hla.rk.below hB).at1 i ((kl).getD i kv0) (getD_some (by omega))
       refine l_q (q_indexAddr1 Tryz.underlying24 Tryz.sizeOf61 rfl ha12 rfl (by omega) rfl) (l_q (q_load Tryz.isAgg61 rfl (hh12) rfl) (l_q (q_len rfl Tryz.underlying61 rfl rfl) (l_q (q_gtr rfl rfl rfl) (l_nil (r_forget [(1, .pointer _), (3, .int _ _), (48, .bool _)] ⟨rfl, rfl, rfl, trivial⟩ (fun e13 => (r_cond rfl (fun hc14 => ?_) (fun hc14 => ?_))))))))
       ·
        replace hc14 := dt hc14
        refine r_seq (r_region' (l_q (qai rfl rfl) (l_nil (r_ret_ (vs := [.int _ _]) rfl Tryz.func5 rfl (.nil _) ⟨rfl, trivial⟩ ?_))))
        exact ⟨3, rfl, fun h => absurd h (by decide), Ext.of_below hB⟩
       ·
        replace hc14 := dlt hc14
        refine r_skip (r_inBlock (r_region' (l_q (qmi rfl rfl) (l_q (q_add rfl rfl (by omega) rfl) (l_q (qai rfl rfl) (l_nil ?_))))))
        exact ih10 (i + 1) _ _ ⟨⟨rfl, by first | rfl | exact vint_eq (by omega), trivial⟩, (by omega), (fun j hj => by rcases Nat.lt_succ_iff_lt_or_eq.1 hj with h | h; exact hfew j h; subst h; omega), hb1, hsz, hB⟩ (by first | omega | (dsimp only; omega))
      ·
       replace hc11 := dlt hc11
       have hfew2 : ∀ i, i < kl.length → (kl.getD i kv0).xs.length ≤ 4 := fun j hj => hfew j (by omega)
       refine r_exit rfl (r_seq (r_seq (r_region' (l_q (q_fieldAddr (o' := 0) rfl fld27_0 rfl) (l_q (q_load Tryz.isAgg22 rfl ((hb1.has (o := 0) rfl)) rfl) (l_q (q_len rfl Tryz.underlying22 rfl rfl) (l_q (q_eql rfl rfl rfl) (l_q (qmb rfl rfl) (l_part 53 rfl (fun hc15 => ?_) (fun hc15 => ?_))))))))))
       ·
        replace hc15 := dt hc15
        refine l_q (q_skip rfl) (l_q (q_skip rfl) (l_q (q_skip rfl) (l_q (q_skip rfl) (l_q (q_pick_t (v := .bool _) rfl rfl rfl) (l_q (qmb rfl rfl) (l_q (q_skip rfl) (l_q (q_skip rfl) (l_q (q_skip rfl) (l_q (q_skip rfl) (l_q (q_pick_t (v := .bool _) rfl rfl rfl) (l_nil (r_forget [(1, .pointer _), (64, .bool _)] ⟨rfl, rfl, trivial⟩ (fun e16 => (r_cond_t rfl (r_seq (r_region' (l_q (qai rfl rfl) (l_nil (r_ret_ (vs := [.int _ _]) rfl Tryz.func5 rfl (.nil _) ⟨rfl, trivial⟩ ?_)))))))))))))))))))
        exact ⟨1, rfl, fun h => absurd h (by decide), Ext.of_below hB⟩
       ·
        replace hc15 := df hc15
        refine l_q (q_fieldAddr (o' := 2) rfl fld27_2 rfl) (l_q (q_load Tryz.isAgg24 rfl ((hb1.has (o := 2) rfl)) rfl) (l_q (q_len rfl Tryz.underlying24 rfl rfl) (l_q (q_eql rfl rfl rfl) (l_q (q_pick_f (v := .bool _) rfl rfl rfl) (l_q (qmb rfl rfl) (l_part 59 rfl (fun hc17 => ?_) (fun hc17 => ?_)))))))
        ·
         replace hc17 := dt hc17
         refine l_q (q_skip rfl) (l_q (q_skip rfl) (l_q (q_skip rfl) (l_q (q_skip rfl) (l_q (q_pick_t (v := .bool _) rfl rfl rfl) (l_nil (r_forget [(1, .pointer _), (64, .bool _)] ⟨rfl, rfl, trivial⟩ (fun e18 => (r_cond_t rfl (r_seq (r_region' (l_q (qai rfl rfl) (l_nil (r_ret_ (vs := [.int _ _]) rfl Tryz.func5 rfl (.nil _) ⟨rfl, trivial⟩ ?_)))))))))))))
         exact ⟨1, rfl, fun h => absurd h (by decide), Ext.of_below hB⟩
        ·
         replace hc17 := df hc17
         refine l_q (q_fieldAddr (o' := 3) rfl fld27_3 rfl) (l_q (q_load Tryz.isAgg25 rfl ((hb1.has (o := 3) rfl)) rfl) (l_q (q_len rfl Tryz.underlying25 rfl rfl) (l_q (q_eql rfl rfl rfl) (l_q (q_pick_f (v := .bool _) rfl rfl rfl) (l_nil (r_forget [(1, .pointer _), (64, .bool _)] ⟨rfl, rfl, trivial⟩ (fun e19 => (r_cond rfl (fun hc20 => ?_) (fun hc20 => ?_)))))))))
         ·
          replace hc20 := dt hc20
          refine r_seq (r_region' (l_q (qai rfl rfl) (l_nil (r_ret_ (vs := [.int _ _]) rfl Tryz.func5 rfl (.nil _) ⟨rfl, trivial⟩ ?_))))
          exact ⟨1, rfl, fun h => absurd h (by decide), Ext.of_below hB⟩
         ·
          replace hc20 := df hc20
          refine r_skip (r_seq (r_seq (r_region' (l_q (qai rfl rfl) (l_nil (r_block (r_rounds (α := Nat) (fun i e wl => Knows e [(1, ptr b1 0), (4, vint (i : Int))] ∧ (i ≤ sl.length) ∧ (∀ j, j < i → okSt (sl.getD j s40) = true) ∧ (∀ j, j < i → ∀ k, k < j → ¬ ((sl.getD k s40).x = (sl.getD j s40).x ∧ (sl.getD k s40).y = (sl.getD j s40).y)) ∧ (Blk wl b1 [.slice sa sl.length sc, .slice ra rl.length rc, .slice ka kl.length kc, .slice ua ul.length uc]) ∧ (w.heap.size ≤ wl.heap.size) ∧ (Below w.heap.size w wl)) (fun i => sl.length - i) 0 ?_ ?_)))))))
          ·
           exact ⟨⟨rfl, rfl, trivial⟩, (Nat.zero_le _), (fun i hi => absurd hi (Nat.not_lt_zero _)), (fun i hi => absurd hi (Nat.not_lt_zero _)), hb1, hsz, hB⟩
          ·
           rintro i el21 wl21 ⟨hkn, hki, hst, hap, hb1, hsz, hB⟩ ih21
           obtain ⟨e21, rfl⟩ := knows_env hkn
           refine r_seq (r_seq (r_region' (l_q (qmi rfl rfl) (l_q (q_fieldAddr (o' := 0) rfl fld27_0 rfl) (l_q (q_load Tryz.isAgg22 rfl ((hb1.has (o := 0) rfl)) rfl) (l_q (q_len rfl Tryz.underlying22 rfl rfl) (l_q (q_lss rfl rfl rfl) (l_nil (r_cond rfl (fun hc22 => ?_) (fun hc22 => ?_))))))))))
           ·
            replace hc22 := dt hc22
            have his : i < sl.length := by omega
            refine r_skip (r_seq (r_block (r_seq (r_region' (l_q (q_fieldAddr (o' := 0) rfl fld27_0 rfl) (l_q (q_load Tryz.isAgg22 rfl ((hb1.has (o := 0) rfl)) rfl) (l_q (qmi rfl rfl) ?_)))))))
            obtain ⟨b23, o23, ha23, hh23⟩ := (hla.rs.below hB).at (by decide) i (by omega)
            refine l_q (q_indexAddr Tryz.underlying22 Tryz.sizeOf63 rfl ha23 rfl (by omega) rfl) (l_q (q_load_agg (cs := [vint (((sl).getD i s40).x), vint (((sl).getD i s40).y), vint (((sl).getD i s40).z), vint (((sl).getD i s40).m)]) (n := 4) Tryz.isAgg63 Tryz.sizeOf63 rfl ((cells_cast (wide_at S4.len s40 _ _ (by omega)) hh23)) rfl rfl) (l_o (o_alloc Tryz.zeroValue63 rfl rfl ?_)))
            intro b24 w24 hzl24 hzr24 _ hb24 hE24
            have hne_b1_b24 : b1 ≠ b24 := by have := hb1.lt; omega
            have hbs_b24 : w.heap.size ≤ b24 := Nat.le_trans hsz hzl24
            replace hB := below_ext hB hE24 hsz
            replace hb1 := hb1.ext hE24
            replace hsz := Nat.le_trans hsz hE24.size
            refine l_o (o_store (vs := [vint (((sl).getD i s40).x), vint (((sl).getD i s40).y), vint (((sl).getD i s40).z), vint (((sl).getD i s40).m)]) (cs' := [vint (((sl).getD i s40).x), vint (((sl).getD i s40).y), vint (((sl).getD i s40).z), vint (((sl).getD i s40).m)]) Tryz.sizeOf63 rfl rfl rfl rfl hb24 (Nat.le_of_ble_eq_true rfl) rfl rfl ?_)
            intro w25 hz25 hb24 hG25
            replace hB := below_upd hB hG25 hsz (by omega)
            replace hsz : w.heap.size ≤ w25.heap.size := by rw [hz25]; exact hsz
            replace hb1 := hb1.upd hG25 (by omega)
            refine l_nil (r_forget [(1, .pointer _), (4, .int _ _), (5, .pointer _)] ⟨rfl, rfl, rfl, trivial⟩ (fun e26 => (r_seq (r_seq (r_region' (l_q (q_fieldAddr (o' := 0) rfl fld63_0 rfl) (l_q (q_load Tryz.isAgg3 rfl ((hb24.has (o := 0) rfl)) rfl) (l_o (o_call Tryz.call16 rfl (in1_ret _ _ _ _) rfl ?_)))))))))
            rintro _ w27 ⟨rfl, rfl⟩
            refine l_q (q_not rfl rfl) (l_q (qmb rfl rfl) (l_part 81 rfl (fun hc28 => ?_) (fun hc28 => ?_)))
            ·
             replace hc28 := b2f (nt hc28)
             refine l_q (q_skip rfl) (l_q (q_skip rfl) (l_q (q_skip rfl) (l_q (q_skip rfl) (l_q (q_pick_t (v := .bool _) rfl rfl rfl) (l_q (qmb rfl rfl) (l_q (q_skip rfl) (l_q (q_skip rfl) (l_q (q_skip rfl) (l_q (q_skip rfl) (l_q (q_pick_t (v := .bool _) rfl rfl rfl) (l_q (qmb rfl rfl) (l_q (q_skip rfl) (l_q (q_skip rfl) (l_q (q_skip rfl) (l_q (q_skip rfl) (l_q (q_pick_t (v := .bool _) rfl rfl rfl) (l_nil (r_forget [(1, .pointer _), (4, .int _ _), (5, .pointer _), (98, .bool _)] ⟨rfl, rfl, rfl, rfl, trivial⟩ (fun e29 => (r_cond_t rfl (r_seq (r_region' (l_q (qai rfl rfl) (l_nil (r_ret_ (vs := [.int _ _]) rfl Tryz.func5 rfl (.nil _) ⟨rfl, trivial⟩ ?_)))))))))))))))))))))))))
             exact ⟨1, rfl, fun h => absurd h (by decide), Ext.of_below hB⟩
            ·
             replace hc28 := b2t (nf hc28)
             refine l_q (q_fieldAddr (o' := 1) rfl fld63_1 rfl) (l_q (q_load Tryz.isAgg3 rfl ((hb24.has (o := 1) rfl)) rfl) (l_o (o_call Tryz.call16 rfl (in1_ret _ _ _ _) rfl ?_)))
             rintro _ w30 ⟨rfl, rfl⟩
             refine l_q (q_not rfl rfl) (l_q (q_pick_f (v := .bool _) rfl rfl rfl) (l_q (qmb rfl rfl) (l_part 87 rfl (fun hc31 => ?_) (fun hc31 => ?_))))
             ·
              replace hc31 := b2f (nt hc31)
              refine l_q (q_skip rfl) (l_q (q_skip rfl) (l_q (q_skip rfl) (l_q (q_skip rfl) (l_q (q_pick_t (v := .bool _) rfl rfl rfl) (l_q (qmb rfl rfl) (l_q (q_skip rfl) (l_q (q_skip rfl) (l_q (q_skip rfl) (l_q (q_skip rfl) (l_q (q_pick_t (v := .bool _) rfl rfl rfl) (l_nil (r_forget [(1, .pointer _), (4, .int _ _), (5, .pointer _), (98, .bool _)] ⟨rfl, rfl, rfl, rfl, trivial⟩ (fun e32 => (r_cond_t rfl (r_seq (r_region' (l_q (qai rfl rfl) (l_nil (r_ret_ (vs := [.int _ _]) rfl Tryz.func5 rfl (.nil _) ⟨rfl, trivial⟩ ?_)))))))))))))))))))
              exact ⟨1, rfl, fun h => absurd h (by decide), Ext.of_below hB⟩
             ·
              replace hc31 := b2t (nf hc31)
              refine l_q (q_fieldAddr (o' := 2) rfl fld63_2 rfl) (l_q (q_load Tryz.isAgg3 rfl ((hb24.has (o := 2) rfl)) rfl) (l_o (o_call Tryz.call16 rfl (in1_ret _ _ _ _) rfl ?_)))
              rintro _ w33 ⟨rfl, rfl⟩
              refine l_q (q_not rfl rfl) (l_q (q_pick_f (v := .bool _) rfl rfl rfl) (l_q (qmb rfl rfl) (l_part 93 rfl (fun hc34 => ?_) (fun hc34 => ?_))))
              ·
               replace hc34 := b2f (nt hc34)
               refine l_q (q_skip rfl) (l_q (q_skip rfl) (l_q (q_skip rfl) (l_q (q_skip rfl) (l_q (q_pick_t (v := .bool _) rfl rfl rfl) (l_nil (r_forget [(1, .pointer _), (4, .int _ _), (5, .pointer _), (98, .bool _)] ⟨rfl, rfl, rfl, rfl, trivial⟩ (fun e35 => (r_cond_t rfl (r_seq (r_region' (l_q (qai rfl rfl) (l_nil (r_ret_ (vs := [.int _ _]) rfl Tryz.func5 rfl (.nil _) ⟨rfl, trivial⟩ ?_)))))))))))))
               exact ⟨1, rfl, fun h => absurd h (by decide), Ext.of_below hB⟩
              ·
               replace hc34 := b2t (nf hc34)
               refine l_q (q_fieldAddr (o' := 3) rfl fld63_3 rfl) (l_q (q_load Tryz.isAgg3 rfl ((hb24.has (o := 3) rfl)) rfl) (l_o (o_call Tryz.call16 rfl (in1_ret _ _ _ _) rfl ?_)))
               rintro _ w36 ⟨rfl, rfl⟩
               refine l_q (q_not rfl rfl) (l_q (q_pick_f (v := .bool _) rfl rfl rfl) (l_nil (r_forget [(1, .pointer _), (4, .int _ _), (5, .pointer _), (98, .bool _)] ⟨rfl, rfl, rfl, rfl, trivial⟩ (fun e37 => (r_cond rfl (fun hc38 => ?_) (fun hc38 => ?_))))))
               ·
                replace hc38 := b2f (nt hc38)
                refine r_seq (r_region' (l_q (qai rfl rfl) (l_nil (r_ret_ (vs := [.int _ _]) rfl Tryz.func5 rfl (.nil _) ⟨rfl, trivial⟩ ?_))))
                exact ⟨1, rfl, fun h => absurd h (by decide), Ext.of_below hB⟩
               ·
                replace hc38 := b2t (nf hc38)
                refine r_skip (r_seq ?_)
                have hsi : okSt (sl.getD i s40) = true := okSt_of (by omega)
                refine r_region' (l_q (qai rfl rfl) (l_nil (r_block (r_rounds (α := Nat) (fun j e wl => Knows e [(1, ptr b1 0), (4, vint (i : Int)), (5, ptr b24 0), (6, vint (j : Int))] ∧ (j ≤ i) ∧ (∀ k, k < j → ¬ ((sl.getD k s40).x = (sl.getD i s40).x ∧ (sl.getD k s40).y = (sl.getD i s40).y)) ∧ (Blk wl b1 [.slice sa sl.length sc, .slice ra rl.length rc, .slice ka kl.length kc, .slice ua ul.length uc]) ∧ (Blk wl b24 [vint (((sl).getD i s40).x), vint (((sl).getD i s40).y), vint (((sl).getD i s40).z), vint (((sl).getD i s40).m)]) ∧ (w.heap.size ≤ wl.heap.size) ∧ (Below w.heap.size w wl)) (fun j => i - j) 0 ?_ ?_))))
                ·
                 exact ⟨⟨rfl, rfl, rfl, rfl, trivial⟩, (Nat.zero_le _), (fun i hi => absurd hi (Nat.not_lt_zero _)), hb1, hb24, hsz, hB⟩
                ·
                 rintro j el39 wl39 ⟨hkn, hkj, hin, hb1, hb24, hsz, hB⟩ ih39
                 obtain ⟨e39, rfl⟩ := knows_env hkn
                 refine r_seq (r_seq (r_region' (l_q (qmi rfl rfl) (l_q (qmi rfl rfl) (l_q (q_lss rfl rfl rfl) (l_nil (r_cond rfl (fun hc40 => ?_) (fun hc40 => ?_))))))))
                 ·
                  replace hc40 := dt hc40
                  have hji : j < i := by omega
                  refine r_skip (r_seq (r_block (r_seq (r_draw ext_refl' ext_trans' [0, 1, 2, 3, 4, 5, 6, 7, 8, 9, 10, 11, 12, 13, 14, 15, 16, 17, 18, 19] [] 16 (by kernel_rfl) (by kernel_rfl) ?_))))
                  intro w41 _ hE41
                  replace hB := below_ext hB hE41 hsz
                  replace hb1 := hb1.ext hE41
                  replace hb24 := hb24.ext hE41
                  replace hsz := Nat.le_trans hsz hE41.size
                  refine m_q rfl rfl (fun w' hC' => q_fieldAddr (o' := 0) rfl fld27_0 rfl) (m_q rfl rfl (fun w' hC' => q_load Tryz.isAgg22 rfl (((hb1.has (o := 0) rfl).ext hC')) rfl) (m_q rfl rfl (fun w' hC' => qmi rfl rfl) ?_))
                  obtain ⟨b42, o42, ha42, hh42⟩ := (hla.rs.below hB).at (by decide) j (by omega)
                  refine m_q rfl rfl (fun w' hC' => q_indexAddr Tryz.underlying22 Tryz.sizeOf63 rfl ha42 rfl (by omega) rfl) (m_q rfl rfl (fun w' hC' => q_fieldAddr (o' := 0) rfl fld63_0 rfl) (m_q rfl rfl (fun w' hC' => q_load Tryz.isAgg3 rfl ((((cells_cast (wide_at S4.len s40 _ _ (by omega)) hh42) 0 _ rfl).ext hC')) rfl) (m_q rfl rfl (fun w' hC' => q_fieldAddr (o' := 0) rfl fld63_0 rfl) (m_q rfl rfl (fun w' hC' => q_load Tryz.isAgg3 rfl (((hb24.has (o := 0) rfl).ext hC')) rfl) (m_q rfl rfl (fun w' hC' => q_eql rfl rfl rfl) (m_q rfl rfl (fun w' hC' => qmb rfl rfl) (m_part 113 rfl (fun hc43 => ?_) (fun hc43 => ?_))))))))
                  ·
                   replace hc43 := dt hc43
                   refine m_q rfl rfl (fun w' hC' => q_fieldAddr (o' := 0) rfl fld27_0 rfl) (m_q rfl rfl (fun w' hC' => q_load Tryz.isAgg22 rfl (((hb1.has (o := 0) rfl).ext hC')) rfl) (m_q rfl rfl (fun w' hC' => qmi rfl rfl) ?_))
                   obtain ⟨b44, o44, ha44, hh44⟩ := (hla.rs.below hB).at (by decide) j (by omega)
                   refine m_q rfl rfl (fun w' hC' => q_indexAddr Tryz.underlying22 Tryz.sizeOf63 rfl ha44 rfl (by omega) rfl) (m_q rfl rfl (fun w' hC' => q_fieldAddr (o' := 1) rfl fld63_1 rfl) (m_q rfl rfl (fun w' hC' => q_load Tryz.isAgg3 rfl ((((cells_cast (wide_at S4.len s40 _ _ (by omega)) hh44) 1 _ rfl).ext hC')) rfl) (m_q rfl rfl (fun w' hC' => q_fieldAddr (o' := 1) rfl fld63_1 rfl) (m_q rfl rfl (fun w' hC' => q_load Tryz.isAgg3 rfl (((hb24.has (o := 1) rfl).ext hC')) rfl) (m_q rfl rfl (fun w' hC' => q_eql rfl rfl rfl) (m_q rfl rfl (fun w' hC' => q_pick_t (v := .bool _) rfl rfl rfl) (m_nil (r_forget [(1, .pointer _), (4, .int _ _), (5, .pointer _), (6, .int _ _), (123, .bool _)] ⟨rfl, rfl, rfl, rfl, rfl, trivial⟩ (fun e45 => (r_cond rfl (fun hc46 => ?_) (fun hc46 => ?_)))))))))))
                   ·
                    replace hc46 := dt hc46
                    refine r_seq (r_region' (l_q (qai rfl rfl) (l_nil (r_ret_ (vs := [.int _ _]) rfl Tryz.func5 rfl (.nil _) ⟨rfl, trivial⟩ ?_))))
                    exact ⟨1, rfl, fun h => absurd h (by decide), Ext.of_below hB⟩
                   ·
                    replace hc46 := df hc46
                    refine r_skip (r_inBlock (r_region' (l_q (qmi rfl rfl) (l_q (q_add rfl rfl (by omega) rfl) (l_q (qai rfl rfl) (l_nil ?_))))))
                    exact ih39 (j + 1) _ _ ⟨⟨rfl, rfl, rfl, by first | rfl | exact vint_eq (by omega), trivial⟩, (by omega), (fun j hj => by rcases Nat.lt_succ_iff_lt_or_eq.1 hj with h | h; exact hin j h; subst h; omega), hb1, hb24, hsz, hB⟩ (by first | omega | (dsimp only; omega))
                  ·
                   replace hc43 := df hc43
                   refine m_q rfl rfl (fun w' hC' => q_skip rfl) (m_q rfl rfl (fun w' hC' => q_skip rfl) (m_q rfl rfl (fun w' hC' => q_skip rfl) (m_q rfl rfl (fun w' hC' => q_skip rfl) (m_q rfl rfl (fun w' hC' => q_skip rfl) (m_q rfl rfl (fun w' hC' => q_skip rfl) (m_q rfl rfl (fun w' hC' => q_skip rfl) (m_q rfl rfl (fun w' hC' => q_skip rfl) (m_q rfl rfl (fun w' hC' => q_skip rfl) (m_q rfl rfl (fun w' hC' => q_pick_f (v := .bool _) rfl rfl rfl) (m_nil (r_forget [(1, .pointer _), (4, .int _ _), (5, .pointer _), (6, .int _ _), (123, .bool _)] ⟨rfl, rfl, rfl, rfl, rfl, trivial⟩ (fun e47 => (r_cond_f rfl (r_skip (r_inBlock (r_region' (l_q (qmi rfl rfl) (l_q (q_add rfl rfl (by omega) rfl) (l_q (qai rfl rfl) (l_nil ?_))))))))))))))))))))
                   exact ih39 (j + 1) _ _ ⟨⟨rfl, rfl, rfl, by first | rfl | exact vint_eq (by omega), trivial⟩, (by omega), (fun j hj => by rcases Nat.lt_succ_iff_lt_or_eq.1 hj with h | h; exact hin j h; subst h; omega), hb1, hb24, hsz, hB⟩ (by first | omega | (dsimp only; omega))
                 ·
                  replace hc40 := dlt hc40
                  skip
                  refine r_exit rfl (r_inBlock (r_region' (l_q (qmi rfl rfl) (l_q (q_add rfl rfl (by omega) rfl) (l_q (qai rfl rfl) (l_nil ?_))))))
                  exact ih21 (i + 1) _ _ ⟨⟨rfl, by first | rfl | exact vint_eq (by omega), trivial⟩, (by omega), (fun j hj => by rcases Nat.lt_succ_iff_lt_or_eq.1 hj with h | h; exact hst j h; subst h; exact hsi), (fun j hj => by rcases Nat.lt_succ_iff_lt_or_eq.1 hj with h | h; exact hap j h; subst h; exact fun k hk => hin k (by omega)), hb1, hsz, hB⟩ (by first | omega | (dsimp only; omega))
           ·
            replace hc22 := dlt hc22
            have hst2 : ∀ i, i < sl.length → okSt (sl.getD i s40) = true := fun j hj => hst j (by omega)
            have hap2 := fun j (hj : j < sl.length) => hap j (by omega)
            refine r_exit rfl (r_seq (r_seq (r_region' (l_q (qai rfl rfl) (l_nil (r_block (r_rounds (α := Nat) (fun i e wl => Knows e [(1, ptr b1 0), (7, vint (i : Int))] ∧ (i ≤ rl.length) ∧ (∀ j, j < i → okRg (rl.getD j wl0) = true) ∧ (Blk wl b1 [.slice sa sl.length sc, .slice ra rl.length rc, .slice ka kl.length kc, .slice ua ul.length uc]) ∧ (w.heap.size ≤ wl.heap.size) ∧ (Below w.heap.size w wl)) (fun i => rl.length - i) 0 ?_ ?_)))))))
            ·
             exact ⟨⟨rfl, rfl, trivial⟩, (Nat.zero_le _), (fun i hi => absurd hi (Nat.not_lt_zero _)), hb1, hsz, hB⟩
            ·
             rintro i el48 wl48 ⟨hkn, hki, hrg, hb1, hsz, hB⟩ ih48
             obtain ⟨e48, rfl⟩ := knows_env hkn
             refine r_seq (r_seq (r_region' (l_q (qmi rfl rfl) (l_q (q_fieldAddr (o' := 1) rfl fld27_1 rfl) (l_q (q_load Tryz.isAgg23 rfl ((hb1.has (o := 1) rfl)) rfl) (l_q (q_len rfl Tryz.underlying23 rfl rfl) (l_q (q_lss rfl rfl rfl) (l_nil (r_cond rfl (fun hc49 => ?_) (fun hc49 => ?_))))))))))
             ·
              replace hc49 := dt hc49
              have hir : i < rl.length := by omega
              refine r_skip (r_seq (r_block (r_seq (r_region' (l_q (q_fieldAddr (o' := 1) rfl fld27_1 rfl) (l_q (q_load Tryz.isAgg23 rfl ((hb1.has (o := 1) rfl)) rfl) (l_q (qmi rfl rfl) ?_)))))))
              obtain ⟨b50, o50, ha50, hh50⟩ := (hla.rr.below hB).at (by decide) i (by omega)
              refine l_q (q_indexAddr Tryz.underlying23 Tryz.sizeOf67 rfl ha50 rfl (by omega) rfl) (l_q (q_load_agg (cs := [vint (((rl).getD i wl0).x1), vint (((rl).getD i wl0).y1), vint (((rl).getD i wl0).x2), vint (((rl).getD i wl0).y2), vint (((rl).getD i wl0).ba), vint (((rl).getD i wl0).tp)]) (n := 6) Tryz.isAgg67 Tryz.sizeOf67 rfl ((cells_cast (wide_at WL.len wl0 _ _ (by omega)) hh50)) rfl rfl) (l_o (o_call Tryz.call17 rfl (isWall_ret ⟨((rl).getD i wl0).x1, ((rl).getD i wl0).y1, ((rl).getD i wl0).x2, ((rl).getD i wl0).y2, ((rl).getD i wl0).ba, ((rl).getD i wl0).tp⟩ _) rfl ?_)))
              rintro _ w51 ⟨rfl, hE51⟩
              replace hB := below_ext hB hE51 hsz
              replace hb1 := hb1.ext hE51
              replace hsz := Nat.le_trans hsz hE51.size
              refine l_q (q_not rfl rfl) (l_q (qmb rfl rfl) (l_part 138 rfl (fun hc52 => ?_) (fun hc52 => ?_)))
              ·
               replace hc52 := nt hc52
               refine l_q (q_skip rfl) (l_q (q_skip rfl) (l_q (q_skip rfl) (l_q (q_skip rfl) (l_q (q_skip rfl) (l_q (q_skip rfl) (l_q (q_skip rfl) (l_q (q_pick_t (v := .bool _) rfl rfl rfl) (l_nil (r_forget [(1, .pointer _), (7, .int _ _), (146, .bool _)] ⟨rfl, rfl, rfl, trivial⟩ (fun e53 => (r_cond_t rfl (r_seq (r_region' (l_q (qai rfl rfl) (l_nil (r_ret_ (vs := [.int _ _]) rfl Tryz.func5 rfl (.nil _) ⟨rfl, trivial⟩ ?_))))))))))))))))
               exact ⟨1, rfl, fun h => absurd h (by decide), Ext.of_below hB⟩
              ·
               replace hc52 := nf hc52
               have g138 := hc52
               refine l_q (q_fieldAddr (o' := 1) rfl fld27_1 rfl) (l_q (q_load Tryz.isAgg23 rfl ((hb1.has (o := 1) rfl)) rfl) (l_q (qmi rfl rfl) ?_))
               obtain ⟨b54, o54, ha54, hh54⟩ := (hla.rr.below hB).at (by decide) i (by omega)
               refine l_q (q_indexAddr Tryz.underlying23 Tryz.sizeOf67 rfl ha54 rfl (by omega) rfl) (l_q (q_fieldAddr (o' := 4) rfl fld67_4 rfl) (l_q (q_load Tryz.isAgg3 rfl (((cells_cast (wide_at WL.len wl0 _ _ (by omega)) hh54) 4 _ rfl)) rfl) (l_q (q_neq rfl rfl rfl) (l_q (q_pick_f (v := .bool _) rfl rfl rfl) (l_nil (r_forget [(1, .pointer _), (7, .int _ _), (146, .bool _)] ⟨rfl, rfl, rfl, trivial⟩ (fun e55 => (r_cond rfl (fun hc56 => ?_) (fun hc56 => ?_)))))))))
               ·
                replace hc56 := df (nt hc56)
                refine r_seq (r_region' (l_q (qai rfl rfl) (l_nil (r_ret_ (vs := [.int _ _]) rfl Tryz.func5 rfl (.nil _) ⟨rfl, trivial⟩ ?_))))
                exact ⟨1, rfl, fun h => absurd h (by decide), Ext.of_below hB⟩
               ·
                replace hc56 := dt (nf hc56)
                refine r_skip (r_inBlock (r_region' (l_q (qmi rfl rfl) (l_q (q_add rfl rfl (by omega) rfl) (l_q (qai rfl rfl) (l_nil ?_))))))
                exact ih48 (i + 1) _ _ ⟨⟨rfl, by first | rfl | exact vint_eq (by omega), trivial⟩, (by omega), (fun j hj => by rcases Nat.lt_succ_iff_lt_or_eq.1 hj with h | h; exact hrg j h; subst h; exact okRg_of g138 (by omega)), hb1, hsz, hB⟩ (by first | omega | (dsimp only; omega))
             ·
              replace hc49 := dlt hc49
              have hrg2 : ∀ i, i < rl.length → okRg (rl.getD i wl0) = true := fun j hj => hrg j (by omega)
              refine r_exit rfl (r_seq (r_seq (r_region' (l_q (qai rfl rfl) (l_nil (r_block (r_rounds (α := Nat) (fun i e wl => Knows e [(1, ptr b1 0), (8, vint (i : Int))] ∧ (i ≤ kl.length) ∧ (∀ j, j < i → ∀ k, k < (kl.getD j kv0).xs.length → okCl ul.length ((kl.getD j kv0).xs.getD k cl0) = true) ∧ (Blk wl b1 [.slice sa sl.length sc, .slice ra rl.length rc, .slice ka kl.length kc, .slice ua ul.length uc]) ∧ (w.heap.size ≤ wl.heap.size) ∧ (Below w.heap.size w wl)) (fun i => kl.length - i) 0 ?_ ?_)))))))
              ·
               exact ⟨⟨rfl, rfl, trivial⟩, (Nat.zero_le _), (fun i hi => absurd hi (Nat.not_lt_zero _)), hb1, hsz, hB⟩
              ·
               rintro i el57 wl57 ⟨hkn, hki, hcl, hb1, hsz, hB⟩ ih57
               obtain ⟨e57, rfl⟩ := knows_env hkn
               refine r_seq (r_seq (r_region' (l_q (qmi rfl rfl) (l_q (q_fieldAddr (o' := 2) rfl fld27_2 rfl) (l_q (q_load Tryz.isAgg24 rfl ((hb1.has (o := 2) rfl)) rfl) (l_q (q_len rfl Tryz.underlying24 rfl rfl) (l_q (q_lss rfl rfl rfl) (l_nil (r_cond rfl (fun hc58 => ?_) (fun hc58 => ?_))))))))))
               ·
                replace hc58 := dt hc58
                have hik : i < kl.length := by omega
                have hkb := hbc _ (getD_lt (d := kv0) hik)
                refine r_skip (r_seq (r_block (r_seq (r_region' (l_q (qai rfl rfl) (l_nil (r_block (r_rounds (α := Nat) (fun j e wl => Knows e [(1, ptr b1 0), (8, vint (i : Int)), (9, vint (j : Int))] ∧ (j ≤ (kl.getD i kv0).xs.length) ∧ (∀ k, k < j → okCl ul.length ((kl.getD i kv0).xs.getD k cl0) = true) ∧ (Blk wl b1 [.slice sa sl.length sc, .slice ra rl.length rc, .slice ka kl.length kc, .slice ua ul.length uc]) ∧ (w.heap.size ≤ wl.heap.size) ∧ (Below w.heap.size w wl)) (fun j => (kl.getD i kv0).xs.length - j) 0 ?_ ?_))))))))
                ·
                 exact ⟨⟨rfl, rfl, rfl, trivial⟩, (Nat.zero_le _), (fun i hi => absurd hi (Nat.not_lt_zero _)), hb1, hsz, hB⟩
                ·
                 rintro j el59 wl59 ⟨hkn, hkj, hci, hb1, hsz, hB⟩ ih59
                 obtain ⟨e59, rfl⟩ := knows_env hkn
                 refine r_seq (r_seq (r_region' (l_q (qmi rfl rfl) (l_q (q_fieldAddr (o' := 2) rfl fld27_2 rfl) (l_q (q_load Tryz.isAgg24 rfl ((hb1.has (o := 2) rfl)) rfl) (l_q (qmi rfl rfl) ?_))))))
                 obtain ⟨b60, o60, ha60, hh60⟩ := (hla.rk.below hB).at1 i ((kl).getD i kv0) (getD_some (by omega))
                 refine l_q (q_indexAddr1 Tryz.underlying24 Tryz.sizeOf61 rfl ha60 rfl (by omega) rfl) (l_q (q_load Tryz.isAgg61 rfl (hh60) rfl) (l_q (q_len rfl Tryz.underlying61 rfl rfl) (l_q (q_lss rfl rfl rfl) (l_nil (r_cond rfl (fun hc61 => ?_) (fun hc61 => ?_))))))
                 ·
                  replace hc61 := dt hc61
                  have hjx : j < (kl.getD i kv0).xs.length := by omega
                  refine r_skip (r_seq (r_block (r_seq (r_region' (l_q (q_fieldAddr (o' := 2) rfl fld27_2 rfl) (l_q (q_load Tryz.isAgg24 rfl ((hb1.has (o := 2) rfl)) rfl) (l_q (qmi rfl rfl) ?_)))))))
                  obtain ⟨b62, o62, ha62, hh62⟩ := (hla.rk.below hB).at1 i ((kl).getD i kv0) (getD_some (by omega))
                  refine l_q (q_indexAddr1 Tryz.underlying24 Tryz.sizeOf61 rfl ha62 rfl (by omega) rfl) (l_q (q_load Tryz.isAgg61 rfl (hh62) rfl) (l_q (qmi rfl rfl) ?_))
                  obtain ⟨b63, o63, ha63, hh63⟩ := ((RowsK.get (hla.rkr) (i := i) (by omega)).below hB).at (by decide) j (by omega)
                  refine l_q (q_indexAddr Tryz.underlying61 Tryz.sizeOf69 rfl ha63 rfl (by omega) rfl) (l_q (q_load_agg (cs := [vint ((((((kl).getD i kv0).xs)).getD j cl0).x1), vint ((((((kl).getD i kv0).xs)).getD j cl0).y1), vint ((((((kl).getD i kv0).xs)).getD j cl0).x2), vint ((((((kl).getD i kv0).xs)).getD j cl0).y2), vint ((((((kl).getD i kv0).xs)).getD j cl0).ba), vint ((((((kl).getD i kv0).xs)).getD j cl0).tp), vint ((((((kl).getD i kv0).xs)).getD j cl0).fr), vint ((((((kl).getD i kv0).xs)).getD j cl0).to)]) (n := 8) Tryz.isAgg69 Tryz.sizeOf69 rfl ((cells_cast (wide_at CL.len cl0 _ _ (by omega)) hh63)) rfl rfl) (l_o (o_alloc Tryz.zeroValue69 rfl rfl ?_)))
                  intro b64 w64 hzl64 hzr64 _ hb64 hE64
                  have hne_b1_b64 : b1 ≠ b64 := by have := hb1.lt; omega
                  have hbs_b64 : w.heap.size ≤ b64 := Nat.le_trans hsz hzl64
                  replace hB := below_ext hB hE64 hsz
                  replace hb1 := hb1.ext hE64
                  replace hsz := Nat.le_trans hsz hE64.size
                  refine l_o (o_store (vs := [vint ((((((kl).getD i kv0).xs)).getD j cl0).x1), vint ((((((kl).getD i kv0).xs)).getD j cl0).y1), vint ((((((kl).getD i kv0).xs)).getD j cl0).x2), vint ((((((kl).getD i kv0).xs)).getD j cl0).y2), vint ((((((kl).getD i kv0).xs)).getD j cl0).ba), vint ((((((kl).getD i kv0).xs)).getD j cl0).tp), vint ((((((kl).getD i kv0).xs)).getD j cl0).fr), vint ((((((kl).getD i kv0).xs)).getD j cl0).to)]) (cs' := [vint ((((((kl).getD i kv0).xs)).getD j cl0).x1), vint ((((((kl).getD i kv0).xs)).getD j cl0).y1), vint ((((((kl).getD i kv0).xs)).getD j cl0).x2), vint ((((((kl).getD i kv0).xs)).getD j cl0).y2), vint ((((((kl).getD i kv0).xs)).getD j cl0).ba), vint ((((((kl).getD i kv0).xs)).getD j cl0).tp), vint ((((((kl).getD i kv0).xs)).getD j cl0).fr), vint ((((((kl).getD i kv0).xs)).getD j cl0).to)]) Tryz.sizeOf69 rfl rfl rfl rfl hb64 (Nat.le_of_ble_eq_true rfl) rfl rfl ?_)
                  intro w65 hz65 hb64 hG65
                  replace hB := below_upd hB hG65 hsz (by omega)
                  replace hsz : w.heap.size ≤ w65.heap.size := by rw [hz65]; exact hsz
                  replace hb1 := hb1.upd hG65 (by omega)
                  refine l_nil (r_forget [(1, .pointer _), (8, .int _ _), (9, .int _ _), (10, .pointer _)] ⟨rfl, rfl, rfl, rfl, trivial⟩ (fun e66 => (r_seq (r_region' (l_q (q_fieldAddr (o' := 0) rfl fld69_0 rfl) (l_q (q_load_agg (n := 6) Tryz.isAgg67 Tryz.sizeOf67 rfl ((hb64.cells' (cs' := [_, _, _, _, _, _]) 0 6 rfl)) rfl rfl) (l_o (o_call Tryz.call17 rfl (isWall_ret ⟨(((((kl).getD i kv0).xs)).getD j cl0).x1, (((((kl).getD i kv0).xs)).getD j cl0).y1, (((((kl).getD i kv0).xs)).getD j cl0).x2, (((((kl).getD i kv0).xs)).getD j cl0).y2, (((((kl).getD i kv0).xs)).getD j cl0).ba, (((((kl).getD i kv0).xs)).getD j cl0).tp⟩ _) rfl ?_))))))))
                  rintro _ w67 ⟨rfl, hE67⟩
                  replace hB := below_ext hB hE67 hsz
                  replace hb1 := hb1.ext hE67
                  replace hb64 := hb64.ext hE67
                  replace hsz := Nat.le_trans hsz hE67.size
                  refine l_q (q_not rfl rfl) (l_q (qmb rfl rfl) (l_part 176 rfl (fun hc68 => ?_) (fun hc68 => ?_)))
                  ·
                   replace hc68 := nt hc68
                   refine l_q (q_skip rfl) (l_q (q_skip rfl) (l_q (q_skip rfl) (l_q (q_skip rfl) (l_q (q_skip rfl) (l_q (q_skip rfl) (l_q (q_pick_t (v := .bool _) rfl rfl rfl) (l_q (qmb rfl rfl) (l_q (q_skip rfl) (l_q (q_skip rfl) (l_q (q_skip rfl) (l_q (q_skip rfl) (l_q (q_skip rfl) (l_q (q_skip rfl) (l_q (q_pick_t (v := .bool _) rfl rfl rfl) (l_nil (r_forget [(1, .pointer _), (8, .int _ _), (9, .int _ _), (191, .bool _)] ⟨rfl, rfl, rfl, rfl, trivial⟩ (fun e69 => (r_cond_t rfl (r_seq (r_region' (l_q (qai rfl rfl) (l_nil (r_ret_ (vs := [.int _ _]) rfl Tryz.func5 rfl (.nil _) ⟨rfl, trivial⟩ ?_)))))))))))))))))))))))
                   exact ⟨1, rfl, fun h => absurd h (by decide), Ext.of_below hB⟩
                  ·
                   replace hc68 := nf hc68
                   have g176 := hc68
                   refine l_q (q_fieldAddr (o' := 6) rfl fld69_1 rfl) (l_q (q_load Tryz.isAgg3 rfl ((hb64.has (o := 6) rfl)) rfl) (l_q (q_fieldAddr (o' := 7) rfl fld69_2 rfl) (l_q (q_load Tryz.isAgg3 rfl ((hb64.has (o := 7) rfl)) rfl) (l_o (o_call Tryz.call16 rfl (in1_ret _ _ _ _) rfl ?_)))))
                   rintro _ w70 ⟨rfl, rfl⟩
                   refine l_q (q_not rfl rfl) (l_q (q_pick_f (v := .bool _) rfl rfl rfl) (l_q (qmb rfl rfl) (l_part 184 rfl (fun hc71 => ?_) (fun hc71 => ?_))))
                   ·
                    replace hc71 := b2f (nt hc71)
                    refine l_q (q_skip rfl) (l_q (q_skip rfl) (l_q (q_skip rfl) (l_q (q_skip rfl) (l_q (q_skip rfl) (l_q (q_skip rfl) (l_q (q_pick_t (v := .bool _) rfl rfl rfl) (l_nil (r_forget [(1, .pointer _), (8, .int _ _), (9, .int _ _), (191, .bool _)] ⟨rfl, rfl, rfl, rfl, trivial⟩ (fun e72 => (r_cond_t rfl (r_seq (r_region' (l_q (qai rfl rfl) (l_nil (r_ret_ (vs := [.int _ _]) rfl Tryz.func5 rfl (.nil _) ⟨rfl, trivial⟩ ?_)))))))))))))))
                    exact ⟨1, rfl, fun h => absurd h (by decide), Ext.of_below hB⟩
                   ·
                    replace hc71 := b2t (nf hc71)
                    refine l_q (q_fieldAddr (o' := 7) rfl fld69_2 rfl) (l_q (q_load Tryz.isAgg3 rfl ((hb64.has (o := 7) rfl)) rfl) (l_q (q_fieldAddr (o' := 3) rfl fld27_3 rfl) (l_q (q_load Tryz.isAgg25 rfl ((hb1.has (o := 3) rfl)) rfl) (l_q (q_len rfl Tryz.underlying25 rfl rfl) (l_q (q_geq rfl rfl rfl) (l_q (q_pick_f (v := .bool _) rfl rfl rfl) (l_nil (r_forget [(1, .pointer _), (8, .int _ _), (9, .int _ _), (191, .bool _)] ⟨rfl, rfl, rfl, rfl, trivial⟩ (fun e73 => (r_cond rfl (fun hc74 => ?_) (fun hc74 => ?_)))))))))))
                    ·
                     replace hc74 := dt hc74
                     refine r_seq (r_region' (l_q (qai rfl rfl) (l_nil (r_ret_ (vs := [.int _ _]) rfl Tryz.func5 rfl (.nil _) ⟨rfl, trivial⟩ ?_))))
                     exact ⟨1, rfl, fun h => absurd h (by decide), Ext.of_below hB⟩
                    ·
                     replace hc74 := dle hc74
                     refine r_skip (r_inBlock (r_region' (l_q (qmi rfl rfl) (l_q (q_add rfl rfl (by omega) rfl) (l_q (qai rfl rfl) (l_nil ?_))))))
                     exact ih59 (j + 1) _ _ ⟨⟨rfl, rfl, by first | rfl | exact vint_eq (by omega), trivial⟩, (by omega), (fun j hj => by rcases Nat.lt_succ_iff_lt_or_eq.1 hj with h | h; exact hci j h; subst h; exact okCl_of g176 (by omega)), hb1, hsz, hB⟩ (by first | omega | (dsimp only; omega))
                 ·
                  replace hc61 := dlt hc61
                  refine r_exit rfl (r_inBlock (r_region' (l_q (qmi rfl rfl) (l_q (q_add rfl rfl (by omega) rfl) (l_q (qai rfl rfl) (l_nil (r_forget [(1, .pointer _), (8, .int _ _)] ⟨rfl, rfl, trivial⟩ (fun e75 => ?_))))))))
                  exact ih57 (i + 1) _ _ ⟨⟨rfl, by first | rfl | exact vint_eq (by omega), trivial⟩, (by omega), (fun j hj => by rcases Nat.lt_succ_iff_lt_or_eq.1 hj with h | h; exact hcl j h; subst h; exact fun k hk => hci k (by omega)), hb1, hsz, hB⟩ (by first | omega | (dsimp only; omega))
               ·
                replace hc58 := dlt hc58
                have hcl2 := fun j (hj : j < kl.length) => hcl j (by omega)
                refine r_exit rfl (r_seq (r_seq (r_region' (l_q (qai rfl rfl) (l_nil (r_block (r_rounds (α := Nat) (fun i e wl => Knows e [(1, ptr b1 0), (11, vint (i : Int))] ∧ (i ≤ ul.length) ∧ (∀ j, j < i → okSu (ul.getD j s30) = true) ∧ (Blk wl b1 [.slice sa sl.length sc, .slice ra rl.length rc, .slice ka kl.length kc, .slice ua ul.length uc]) ∧ (w.heap.size ≤ wl.heap.size) ∧ (Below w.heap.size w wl)) (fun i => ul.length - i) 0 ?_ ?_)))))))
                ·
                 exact ⟨⟨rfl, rfl, trivial⟩, (Nat.zero_le _), (fun i hi => absurd hi (Nat.not_lt_zero _)), hb1, hsz, hB⟩
                ·
                 rintro i el76 wl76 ⟨hkn, hki, hsu, hb1, hsz, hB⟩ ih76
                 obtain ⟨e76, rfl⟩ := knows_env hkn
                 refine r_seq (r_seq (r_region' (l_q (qmi rfl rfl) (l_q (q_fieldAddr (o' := 3) rfl fld27_3 rfl) (l_q (q_load Tryz.isAgg25 rfl ((hb1.has (o := 3) rfl)) rfl) (l_q (q_len rfl Tryz.underlying25 rfl rfl) (l_q (q_lss rfl rfl rfl) (l_nil (r_cond rfl (fun hc77 => ?_) (fun hc77 => ?_))))))))))
                 ·
                  replace hc77 := dt hc77
                  have hiu : i < ul.length := by omega
                  refine r_skip (r_seq (r_block (r_seq (r_region' (l_q (q_fieldAddr (o' := 3) rfl fld27_3 rfl) (l_q (q_load Tryz.isAgg25 rfl ((hb1.has (o := 3) rfl)) rfl) (l_q (qmi rfl rfl) ?_)))))))
                  obtain ⟨b78, o78, ha78, hh78⟩ := (hla.ru.below hB).at (by decide) i (by omega)
                  refine l_q (q_indexAddr Tryz.underlying25 Tryz.sizeOf71 rfl ha78 rfl (by omega) rfl) (l_q (q_load_agg (cs := [vint (((ul).getD i s30).e), vint (((ul).getD i s30).n), vint (((ul).getD i s30).u)]) (n := 3) Tryz.isAgg71 Tryz.sizeOf71 rfl ((cells_cast (wide_at S3.len s30 _ _ (by omega)) hh78)) rfl rfl) (l_o (o_alloc Tryz.zeroValue71 rfl rfl ?_)))
                  intro b79 w79 hzl79 hzr79 _ hb79 hE79
                  have hne_b1_b79 : b1 ≠ b79 := by have := hb1.lt; omega
                  have hbs_b79 : w.heap.size ≤ b79 := Nat.le_trans hsz hzl79
                  replace hB := below_ext hB hE79 hsz
                  replace hb1 := hb1.ext hE79
                  replace hsz := Nat.le_trans hsz hE79.size
                  refine l_o (o_store (vs := [vint (((ul).getD i s30).e), vint (((ul).getD i s30).n), vint (((ul).getD i s30).u)]) (cs' := [vint (((ul).getD i s30).e), vint (((ul).getD i s30).n), vint (((ul).getD i s30).u)]) Tryz.sizeOf71 rfl rfl rfl rfl hb79 (Nat.le_of_ble_eq_true rfl) rfl rfl ?_)
                  intro w80 hz80 hb79 hG80
                  replace hB := below_upd hB hG80 hsz (by omega)
                  replace hsz : w.heap.size ≤ w80.heap.size := by rw [hz80]; exact hsz
                  replace hb1 := hb1.upd hG80 (by omega)
                  refine l_nil (r_forget [(1, .pointer _), (11, .int _ _), (12, .pointer _)] ⟨rfl, rfl, rfl, trivial⟩ (fun e81 => (r_seq (r_region' (l_q (q_fieldAddr (o' := 0) rfl fld71_0 rfl) (l_q (q_load Tryz.isAgg3 rfl ((hb79.has (o := 0) rfl)) rfl) (l_o (o_call Tryz.call16 rfl (in1_ret _ _ _ _) rfl ?_))))))))
                  rintro _ w82 ⟨rfl, rfl⟩
                  refine l_q (q_not rfl rfl) (l_q (qmb rfl rfl) (l_part 208 rfl (fun hc83 => ?_) (fun hc83 => ?_)))
                  ·
                   replace hc83 := b2f (nt hc83)
                   refine l_q (q_skip rfl) (l_q (q_skip rfl) (l_q (q_skip rfl) (l_q (q_skip rfl) (l_q (q_pick_t (v := .bool _) rfl rfl rfl) (l_q (qmb rfl rfl) (l_q (q_skip rfl) (l_q (q_skip rfl) (l_q (q_skip rfl) (l_q (q_skip rfl) (l_q (q_pick_t (v := .bool _) rfl rfl rfl) (l_nil (r_forget [(1, .pointer _), (11, .int _ _), (219, .bool _)] ⟨rfl, rfl, rfl, trivial⟩ (fun e84 => (r_cond_t rfl (r_seq (r_region' (l_q (qai rfl rfl) (l_nil (r_ret_ (vs := [.int _ _]) rfl Tryz.func5 rfl (.nil _) ⟨rfl, trivial⟩ ?_)))))))))))))))))))
                   exact ⟨1, rfl, fun h => absurd h (by decide), Ext.of_below hB⟩
                  ·
                   replace hc83 := b2t (nf hc83)
                   refine l_q (q_fieldAddr (o' := 1) rfl fld71_1 rfl) (l_q (q_load Tryz.isAgg3 rfl ((hb79.has (o := 1) rfl)) rfl) (l_o (o_call Tryz.call16 rfl (in1_ret _ _ _ _) rfl ?_)))
                   rintro _ w85 ⟨rfl, rfl⟩
                   refine l_q (q_not rfl rfl) (l_q (q_pick_f (v := .bool _) rfl rfl rfl) (l_q (qmb rfl rfl) (l_part 214 rfl (fun hc86 => ?_) (fun hc86 => ?_))))
                   ·
                    replace hc86 := b2f (nt hc86)
                    refine l_q (q_skip rfl) (l_q (q_skip rfl) (l_q (q_skip rfl) (l_q (q_skip rfl) (l_q (q_pick_t (v := .bool _) rfl rfl rfl) (l_nil (r_forget [(1, .pointer _), (11, .int _ _), (219, .bool _)] ⟨rfl, rfl, rfl, trivial⟩ (fun e87 => (r_cond_t rfl (r_seq (r_region' (l_q (qai rfl rfl) (l_nil (r_ret_ (vs := [.int _ _]) rfl Tryz.func5 rfl (.nil _) ⟨rfl, trivial⟩ ?_)))))))))))))
                    exact ⟨1, rfl, fun h => absurd h (by decide), Ext.of_below hB⟩
                   ·
                    replace hc86 := b2t (nf hc86)
                    refine l_q (q_fieldAddr (o' := 2) rfl fld71_2 rfl) (l_q (q_load Tryz.isAgg3 rfl ((hb79.has (o := 2) rfl)) rfl) (l_o (o_call Tryz.call16 rfl (in1_ret _ _ _ _) rfl ?_)))
                    rintro _ w88 ⟨rfl, rfl⟩
                    refine l_q (q_not rfl rfl) (l_q (q_pick_f (v := .bool _) rfl rfl rfl) (l_nil (r_forget [(1, .pointer _), (11, .int _ _), (219, .bool _)] ⟨rfl, rfl, rfl, trivial⟩ (fun e89 => (r_cond rfl (fun hc90 => ?_) (fun hc90 => ?_))))))
                    ·
                     replace hc90 := b2f (nt hc90)
                     refine r_seq (r_region' (l_q (qai rfl rfl) (l_nil (r_ret_ (vs := [.int _ _]) rfl Tryz.func5 rfl (.nil _) ⟨rfl, trivial⟩ ?_))))
                     exact ⟨1, rfl, fun h => absurd h (by decide), Ext.of_below hB⟩
                    ·
                     replace hc90 := b2t (nf hc90)
                     refine r_skip (r_inBlock (r_region' (l_q (qmi rfl rfl) (l_q (q_add rfl rfl (by omega) rfl) (l_q (qai rfl rfl) (l_nil ?_))))))
                     exact ih76 (i + 1) _ _ ⟨⟨rfl, by first | rfl | exact vint_eq (by omega), trivial⟩, (by omega), (fun j hj => by rcases Nat.lt_succ_iff_lt_or_eq.1 hj with h | h; exact hsu j h; subst h; exact okSu_of (by omega)), hb1, hsz, hB⟩ (by first | omega | (dsimp only; omega))
                 ·
                  replace hc77 := dlt hc77
                  have hsu2 : ∀ i, i < ul.length → okSu (ul.getD i s30) = true := fun j hj => hsu j (by omega)
                  refine r_exit rfl (r_seq (r_region' (l_q (qai rfl rfl) (l_nil (r_ret_ (vs := [.int _ _]) rfl Tryz.func5 rfl (.nil _) ⟨rfl, trivial⟩ ?_)))))
                  exact ⟨0, rfl, fun _ => ⟨by omega, by omega, by omega, by omega, hfew2, by omega, by omega, by omega, hst2, hap2, hrg2, hcl2, hsu2⟩, Ext.of_below hB⟩
theorem thin1_ret (sa : Option Addr) (sc : Nat) (sl : List S4) (ra : Option Addr) (rc : Nat) (rl : List WL) (ka : Option Addr) (kc : Nat) (kl : List KV) (ua : Option Addr) (uc : Nat) (ul : List S3) (w : World) (hla : LandAt w sa sc sl ra rc rl ka kc kl ua uc ul) (hlb : LaBig sl rl kl ul) : Ret Tryz.prog 4 [.agg ⟨[.slice sa sl.length sc, .slice ra rl.length rc, .slice ka kl.length kc, .slice ua ul.length uc]⟩] w (fun v w' => ∃ b, v = .bool b ∧ Ext w w') := by
 obtain ⟨hbs, hbr, hbk, hbu, hbc⟩ := hlb
 have hB := Below.refl w.heap.size w
 have hsz : w.heap.size ≤ w.heap.size := Nat.le_refl _
 refine ret_of_runs (args := [_]) Tryz.func4 rfl (Nat.le_of_ble_eq_true rfl) (by kernel_rfl) (r_seq (r_region' (l_o (o_box rfl rfl rfl ?_))))
 intro b1 w1 hzl1 hzr1 _ hb1 hE1
 have hbs_b1 : w.heap.size ≤ b1 := Nat.le_trans hsz hzl1
 replace hB := below_ext hB hE1 hsz
 replace hsz := Nat.le_trans hsz hE1.size
 refine l_q (qab rfl rfl) (l_nil (r_seq (r_seq (r_region' (l_q (qai rfl rfl) (l_nil (r_block (r_rounds (α := Nat) (fun i e wl => Knows e [(1, ptr b1 0), (3, vint (i : Int))] ∧ (i ≤ kl.length) ∧ (i ≤ 10) ∧ (Blk wl b1 [.slice sa sl.length sc, .slice ra rl.length rc, .slice ka kl.length kc, .slice ua ul.length uc]) ∧ (w.heap.size ≤ wl.heap.size) ∧ (Below w.heap.size w wl)) (fun i => kl.length - i) 0 ?_ ?_))))))))
 ·
  exact ⟨⟨rfl, rfl, trivial⟩, (Nat.zero_le _), (by omega), hb1, hsz, hB⟩
 ·
  rintro i el2 wl2 ⟨hkn, hki, hi10, hb1, hsz, hB⟩ ih2
  obtain ⟨e2, rfl⟩ := knows_env hkn
  refine r_seq (r_seq (r_region' (l_q (qmi rfl rfl) (l_q (q_fieldAddr (o' := 2) rfl fld27_2 rfl) (l_q (q_load Tryz.isAgg24 rfl ((hb1.has (o := 2) rfl)) rfl) (l_q (q_len rfl Tryz.underlying24 rfl rfl) (l_q (q_lss rfl rfl rfl) (l_q (qmb rfl rfl) (l_part 9 rfl (fun hc3 => ?_) (fun hc3 => ?_))))))))))
  ·
   replace hc3 := dt hc3
   have hik : i < kl.length := by omega
   refine l_q (qmi rfl rfl) (l_q (q_lss rfl rfl rfl) (l_q (q_pick_t (v := .bool _) rfl rfl rfl) (l_nil (r_cond rfl (fun hc4 => ?_) (fun hc4 => ?_)))))
   ·
    replace hc4 := dt hc4
    refine r_skip (r_seq (r_block (r_seq (r_region' (l_q (q_fieldAddr (o' := 2) rfl fld27_2 rfl) (l_q (q_load Tryz.isAgg24 rfl ((hb1.has (o := 2) rfl)) rfl) (l_q (qmi rfl rfl) ?_)))))))
    obtain ⟨b5, o5, ha5, hh5⟩ := (hla.rk.below hB).at1 i ((kl).getD i kv0) (getD_some (by omega))
    refine l_q (q_indexAddr1 Tryz.underlying24 Tryz.sizeOf61 rfl ha5 rfl (by omega) rfl) (l_q (q_load Tryz.isAgg61 rfl (hh5) rfl) (l_q (q_len rfl Tryz.underlying61 rfl rfl) (l_q (q_gtr rfl rfl rfl) (l_nil (r_forget [(1, .pointer _), (3, .int _ _), (21, .bool _)] ⟨rfl, rfl, rfl, trivial⟩ (fun e6 => (r_cond rfl (fun hc7 => ?_) (fun hc7 => ?_))))))))
    ·
     replace hc7 := dt hc7
     refine r_seq (r_region' (l_q (qab rfl rfl) (l_nil (r_ret_ (vs := [.bool _]) rfl Tryz.func4 rfl (.nil _) ⟨rfl, trivial⟩ ?_))))
     exact ⟨_, rfl, Ext.of_below hB⟩
    ·
     replace hc7 := dlt hc7
     refine r_skip (r_inBlock (r_region' (l_q (qmi rfl rfl) (l_q (q_add rfl rfl (by omega) rfl) (l_q (qai rfl rfl) (l_nil ?_))))))
     exact ih2 (i + 1) _ _ ⟨⟨rfl, by first | rfl | exact vint_eq (by omega), trivial⟩, (by omega), (by omega), hb1, hsz, hB⟩ (by first | omega | (dsimp only; omega))
   ·
    replace hc4 := dlt hc4
    refine r_exit rfl (r_seq (r_region' (l_q (q_fieldAddr (o' := 0) rfl fld27_0 rfl) (l_q (q_load Tryz.isAgg22 rfl ((hb1.has (o := 0) rfl)) rfl) (l_q (q_len rfl Tryz.underlying22 rfl rfl) (l_q (q_leq rfl rfl rfl) (l_q (qmb rfl rfl) (l_part 26 rfl (fun hc8 => ?_) (fun hc8 => ?_)))))))))
    ·
     replace hc8 := dt hc8
     refine l_q (q_fieldAddr (o' := 1) rfl fld27_1 rfl) (l_q (q_load Tryz.isAgg23 rfl ((hb1.has (o := 1) rfl)) rfl) (l_q (q_len rfl Tryz.underlying23 rfl rfl) (l_q (q_leq rfl rfl rfl) (l_q (q_pick_t (v := .bool _) rfl rfl rfl) (l_q (qmb rfl rfl) (l_part 32 rfl (fun hc9 => ?_) (fun hc9 => ?_)))))))
     ·
      replace hc9 := dt hc9
      refine l_q (q_fieldAddr (o' := 2) rfl fld27_2 rfl) (l_q (q_load Tryz.isAgg24 rfl ((hb1.has (o := 2) rfl)) rfl) (l_q (q_len rfl Tryz.underlying24 rfl rfl) (l_q (q_leq rfl rfl rfl) (l_q (q_pick_t (v := .bool _) rfl rfl rfl) (l_q (qmb rfl rfl) (l_part 38 rfl (fun hc10 => ?_) (fun hc10 => ?_)))))))
      ·
       replace hc10 := dt hc10
       refine l_q (q_fieldAddr (o' := 3) rfl fld27_3 rfl) (l_q (q_load Tryz.isAgg25 rfl ((hb1.has (o := 3) rfl)) rfl) (l_q (q_len rfl Tryz.underlying25 rfl rfl) (l_q (q_leq rfl rfl rfl) (l_q (q_pick_t (v := .bool _) rfl rfl rfl) (l_q (qab rfl rfl) (l_nil (r_forget [(2, .bool _)] ⟨rfl, trivial⟩ (fun e11 => (r_ret_ (vs := [.bool _]) rfl Tryz.func4 rfl (.nil _) ⟨rfl, trivial⟩ ?_)))))))))
       exact ⟨_, rfl, Ext.of_below hB⟩
      ·
       replace hc10 := dle hc10
       refine l_q (q_skip rfl) (l_q (q_skip rfl) (l_q (q_skip rfl) (l_q (q_skip rfl) (l_q (q_pick_f (v := .bool _) rfl rfl rfl) (l_q (qab rfl rfl) (l_nil (r_forget [(2, .bool _)] ⟨rfl, trivial⟩ (fun e12 => (r_ret_ (vs := [.bool _]) rfl Tryz.func4 rfl (.nil _) ⟨rfl, trivial⟩ ?_)))))))))
       exact ⟨_, rfl, Ext.of_below hB⟩
     ·
      replace hc9 := dle hc9
      refine l_q (q_skip rfl) (l_q (q_skip rfl) (l_q (q_skip rfl) (l_q (q_skip rfl) (l_q (q_pick_f (v := .bool _) rfl rfl rfl) (l_q (qmb rfl rfl) (l_q (q_skip rfl) (l_q (q_skip rfl) (l_q (q_skip rfl) (l_q (q_skip rfl) (l_q (q_pick_f (v := .bool _) rfl rfl rfl) (l_q (qab rfl rfl) (l_nil (r_forget [(2, .bool _)] ⟨rfl, trivial⟩ (fun e13 => (r_ret_ (vs := [.bool _]) rfl Tryz.func4 rfl (.nil _) ⟨rfl, trivial⟩ ?_)))))))))))))))
      exact ⟨_, rfl, Ext.of_below hB⟩
    ·
     replace hc8 := dle hc8
     refine l_q (q_skip rfl) (l_q (q_skip rfl) (l_q (q_skip rfl) (l_q (q_skip rfl) (l_q (q_pick_f (v := .bool _) rfl rfl rfl) (l_q (qmb rfl rfl) (l_q (q_skip rfl) (l_q (q_skip rfl) (l_q (q_skip rfl) (l_q (q_skip rfl) (l_q (q_pick_f (v := .bool _) rfl rfl rfl) (l_q (qmb rfl rfl) (l_q (q_skip rfl) (l_q (q_skip rfl) (l_q (q_skip rfl) (l_q (q_skip rfl) (l_q (q_pick_f (v := .bool _) rfl rfl rfl) (l_q (qab rfl rfl) (l_nil (r_forget [(2, .bool _)] ⟨rfl, trivial⟩ (fun e14 => (r_ret_ (vs := [.bool _]) rfl Tryz.func4 rfl (.nil _) ⟨rfl, trivial⟩ ?_)))))))))))))))))))))
     exact ⟨_, rfl, Ext.of_below hB⟩
  ·
   replace hc3 := dlt hc3
   refine l_q (q_skip rfl) (l_q (q_skip rfl) (l_q (q_pick_f (v := .bool _) rfl rfl rfl) (l_nil (r_cond_f rfl (r_exit rfl (r_seq (r_region' (l_q (q_fieldAddr (o' := 0) rfl fld27_0 rfl) (l_q (q_load Tryz.isAgg22 rfl ((hb1.has (o := 0) rfl)) rfl) (l_q (q_len rfl Tryz.underlying22 rfl rfl) (l_q (q_leq rfl rfl rfl) (l_q (qmb rfl rfl) (l_part 26 rfl (fun hc15 => ?_) (fun hc15 => ?_))))))))))))))
   ·
    replace hc15 := dt hc15
    refine l_q (q_fieldAddr (o' := 1) rfl fld27_1 rfl) (l_q (q_load Tryz.isAgg23 rfl ((hb1.has (o := 1) rfl)) rfl) (l_q (q_len rfl Tryz.underlying23 rfl rfl) (l_q (q_leq rfl rfl rfl) (l_q (q_pick_t (v := .bool _) rfl rfl rfl) (l_q (qmb rfl rfl) (l_part 32 rfl (fun hc16 => ?_) (fun hc16 => ?_)))))))
    ·
     replace hc16 := dt hc16
     refine l_q (q_fieldAddr (o' := 2) rfl fld27_2 rfl) (l_q (q_load Tryz.isAgg24 rfl ((hb1.has (o := 2) rfl)) rfl) (l_q (q_len rfl Tryz.underlying24 rfl rfl) (l_q (q_leq rfl rfl rfl) (l_q (q_pick_t (v := .bool _) rfl rfl rfl) (l_q (qmb rfl rfl) (l_part 38 rfl (fun hc17 => ?_) (fun hc17 => ?_)))))))
     ·
      replace hc17 := dt hc17
      refine l_q (q_fieldAddr (o' := 3) rfl fld27_3 rfl) (l_q (q_load Tryz.isAgg25 rfl ((hb1.has (o := 3) rfl)) rfl) (l_q (q_len rfl Tryz.underlying25 rfl rfl) (l_q (q_leq rfl rfl rfl) (l_q (q_pick_t (v := .bool _) rfl rfl rfl) (l_q (qab rfl rfl) (l_nil (r_forget [(2, .bool _)] ⟨rfl, trivial⟩ (fun e18 => (r_ret_ (vs := [.bool _]) rfl Tryz.func4 rfl (.nil _) ⟨rfl, trivial⟩ ?_)))))))))
      exact ⟨_, rfl, Ext.of_below hB⟩
     ·
      replace hc17 := dle hc17
      refine l_q (q_skip rfl) (l_q (q_skip rfl) (l_q (q_skip rfl) (l_q (q_skip rfl) (l_q (q_pick_f (v := .bool _) rfl rfl rfl) (l_q (qab rfl rfl) (l_nil (r_forget [(2, .bool _)] ⟨rfl, trivial⟩ (fun e19 => (r_ret_ (vs := [.bool _]) rfl Tryz.func4 rfl (.nil _) ⟨rfl, trivial⟩ ?_)))))))))
      exact ⟨_, rfl, Ext.of_below hB⟩
    ·
     replace hc16 := dle hc16
     refine l_q (q_skip rfl) (l_q (q_skip rfl) (l_q (q_skip rfl) (l_q (q_skip rfl) (l_q (q_pick_f (v := .bool _) rfl rfl rfl) (l_q (qmb rfl rfl) (l_q (q_skip rfl) (l_q (q_skip rfl) (l_q (q_skip rfl) (l_q (q_skip rfl) (l_q (q_pick_f (v := .bool _) rfl rfl rfl) (l_q (qab rfl rfl) (l_nil (r_forget [(2, .bool _)] ⟨rfl, trivial⟩ (fun e20 => (r_ret_ (vs := [.bool _]) rfl Tryz.func4 rfl (.nil _) ⟨rfl, trivial⟩ ?_)))))))))))))))
     exact ⟨_, rfl, Ext.of_below hB⟩
   ·
    replace hc15 := dle hc15
    refine l_q (q_skip rfl) (l_q (q_skip rfl) (l_q (q_skip rfl) (l_q (q_skip rfl) (l_q (q_pick_f (v := .bool _) rfl rfl rfl) (l_q (qmb rfl rfl) (l_q (q_skip rfl) (l_q (q_skip rfl) (l_q (q_skip rfl) (l_q (q_skip rfl) (l_q (q_pick_f (v := .bool _) rfl rfl rfl) (l_q (qmb rfl rfl) (l_q (q_skip rfl) (l_q (q_skip rfl) (l_q (q_skip rfl) (l_q (q_skip rfl) (l_q (q_pick_f (v := .bool _) rfl rfl rfl) (l_q (qab rfl rfl) (l_nil (r_forget [(2, .bool _)] ⟨rfl, trivial⟩ (fun e21 => (r_ret_ (vs := [.bool _]) rfl Tryz.func4 rfl (.nil _) ⟨rfl, trivial⟩ ?_)))))))))))))))))))))
    exact ⟨_, rfl, Ext.of_below hB⟩
theorem wall1_ret (s : WL) (w : World) : Ret Tryz.prog 24 [.agg ⟨[vint s.x1, vint s.y1, vint s.x2, vint s.y2, vint s.ba, vint s.tp]⟩] w (fun v w' => v = .agg ⟨[vint s.x1, vint s.y1, vint s.x2, vint s.y2, vint s.ba, vint s.tp]⟩ ∧ Ext w w') := by
 have hB := Below.refl w.heap.size w
 have hsz : w.heap.size ≤ w.heap.size := Nat.le_refl _
 refine ret_of_runs (args := [_]) Tryz.func24 rfl (Nat.le_of_ble_eq_true rfl) (by kernel_rfl) (r_seq (r_region' (l_o (o_box rfl rfl rfl ?_))))
 intro b1 w1 hzl1 hzr1 _ hb1 hE1
 have hbs_b1 : w.heap.size ≤ b1 := Nat.le_trans hsz hzl1
 replace hB := below_ext hB hE1 hsz
 replace hsz := Nat.le_trans hsz hE1.size
 refine l_o (o_alloc Tryz.zeroValue83 rfl rfl ?_)
 intro b2 w2 hzl2 hzr2 _ hb2 hE2
 have hbs_b2 : w.heap.size ≤ b2 := Nat.le_trans hsz hzl2
 replace hB := below_ext hB hE2 hsz
 replace hb1 := hb1.ext hE2
 replace hsz := Nat.le_trans hsz hE2.size
 refine l_nil (r_seq (r_region' (l_q (q_fieldAddr (o' := 0) rfl fld67_0 rfl) (l_q (q_load Tryz.isAgg3 rfl ((hb1.has (o := 0) rfl)) rfl) (l_q (q_fieldAddr (o' := 1) rfl fld67_1 rfl) (l_q (q_load Tryz.isAgg3 rfl ((hb1.has (o := 1) rfl)) rfl) (l_q (q_fieldAddr (o' := 2) rfl fld67_2 rfl) (l_q (q_load Tryz.isAgg3 rfl ((hb1.has (o := 2) rfl)) rfl) (l_q (q_fieldAddr (o' := 3) rfl fld67_3 rfl) (l_q (q_load Tryz.isAgg3 rfl ((hb1.has (o := 3) rfl)) rfl) (l_q (q_fieldAddr (o' := 4) rfl fld67_4 rfl) (l_q (q_load Tryz.isAgg3 rfl ((hb1.has (o := 4) rfl)) rfl) (l_q (q_fieldAddr (o' := 5) rfl fld67_5 rfl) (l_q (q_load Tryz.isAgg3 rfl ((hb1.has (o := 5) rfl)) rfl) (l_q (q_build (v := .agg ⟨[vint s.x1, vint s.y1, vint s.x2, vint s.y2, vint s.ba, vint s.tp]⟩) (fun w => by kernel_rfl) rfl) ?_)))))))))))))))
 refine l_o (o_store (vs := [vint s.x1, vint s.y1, vint s.x2, vint s.y2, vint s.ba, vint s.tp]) (cs' := [vint s.x1, vint s.y1, vint s.x2, vint s.y2, vint s.ba, vint s.tp]) Tryz.sizeOf83 rfl rfl rfl rfl hb2 (Nat.le_of_ble_eq_true rfl) rfl rfl ?_)
 intro w3 hz3 hb2 hG3
 replace hB := below_upd hB hG3 hsz (by omega)
 replace hsz : w.heap.size ≤ w3.heap.size := by rw [hz3]; exact hsz
 refine l_nil (r_forget [(2, .pointer _)] ⟨rfl, trivial⟩ (fun e4 => (r_ret_ (vs := [.agg _]) rfl Tryz.func24 rfl (.nil _) ⟨⟨_, _, rfl, run_loadVarA Tryz.isAgg83 Tryz.sizeOf83 (hb2.cells' (cs' := [_, _, _, _, _, _]) 0 6 rfl) rfl⟩, trivial⟩ ?_)))
 exact ⟨rfl, Ext.of_below hB⟩
theorem clouds1_ret (a : Option Addr) (c : Nat) (xs : List CL) (w : World) (hk : Row w a xs.length c 8 (xs.flatMap CL.enc)) (hkl : xs.length ≤ 2097152) : Ret Tryz.prog 25 [.slice a xs.length c] w (fun v w' => ∃ oa oc, v = .slice oa xs.length oc ∧ w'.ownsRow w.heap.size 103 8 (.slice oa xs.length oc) xs.length (xs.flatMap CL.enc) ∧ Ext w w') := by
 have hB := Below.refl w.heap.size w
 have hsz : w.heap.size ≤ w.heap.size := Nat.le_refl _
 refine ret_of_runs (args := [_]) Tryz.func25 rfl (Nat.le_of_ble_eq_true rfl) (by kernel_rfl) (r_seq (r_region' (l_q (qas rfl rfl) (l_nil (r_seq (r_region' (l_q (qas rfl rfl) (l_nil (r_seq (r_seq (r_region' (l_q (qai rfl rfl) (l_nil (r_block (r_rounds (α := Nat × (Option Addr) × Nat × (List CL)) (fun ⟨k, oa, oc, X⟩ e wl => Knows e [(0, .slice a xs.length c), (3, .slice oa X.length oc), (4, vint (k : Int))] ∧ (k ≤ xs.length) ∧ (X = xs.take k) ∧ (X.length = k) ∧ (wl.ownsRow w.heap.size 103 8 (.slice oa X.length oc) X.length (X.flatMap CL.enc)) ∧ (w.heap.size ≤ wl.heap.size) ∧ (Below w.heap.size w wl)) (fun ⟨k, oa, oc, X⟩ => xs.length - k) (0, none, 0, []) ?_ ?_)))))))))))))))
 ·
  exact ⟨⟨rfl, rfl, rfl, trivial⟩, (Nat.zero_le _), rfl, rfl, (World.ownsRow_nil _ _ _ _), hsz, hB⟩
 ·
  rintro ⟨k, oa, oc, X⟩ el1 wl1 ⟨hkn, hk2, hX, hXl, hco, hsz, hB⟩ ih1
  obtain ⟨e1, rfl⟩ := knows_env hkn
  refine r_seq (r_seq (r_region' (l_q (qmi rfl rfl) (l_q (qms rfl rfl) (l_q (q_len rfl Tryz.underlying61 rfl rfl) (l_q (q_lss rfl rfl rfl) (l_nil (r_cond rfl (fun hc2 => ?_) (fun hc2 => ?_)))))))))
  ·
   replace hc2 := dt hc2
   have hkx : k < xs.length := by omega
   refine r_skip (r_seq (r_block (r_draw ext_refl' ext_trans' [0, 1, 2, 3, 4, 5, 7, 8, 9, 10, 11, 12, 13, 14, 15, 16, 6, 17, 18, 19, 20] [6, 18, 19, 1019] 20 (by kernel_rfl) (by kernel_rfl) ?_)))
   intro w3 _ hE3
   replace hB := below_ext hB hE3 hsz
   replace hco := own_ext hco hE3
   replace hsz := Nat.le_trans hsz hE3.size
   refine m_q rfl rfl (fun w' hC' => qms rfl rfl) (m_q rfl rfl (fun w' hC' => qms rfl rfl) (m_q rfl rfl (fun w' hC' => qmi rfl rfl) ?_))
   obtain ⟨b4, o4, ha4, hh4⟩ := (hk.below hB).at (by decide) k (by omega)
   refine m_q rfl rfl (fun w' hC' => q_indexAddr Tryz.underlying61 Tryz.sizeOf69 rfl ha4 rfl (by omega) rfl) (m_q rfl rfl (fun w' hC' => q_fieldAddr (o' := 0) rfl fld69_0 rfl) (m_q rfl rfl (fun w' hC' => q_load_agg (cs := [vint (((xs).getD k cl0).x1), vint (((xs).getD k cl0).y1), vint (((xs).getD k cl0).x2), vint (((xs).getD k cl0).y2), vint (((xs).getD k cl0).ba), vint (((xs).getD k cl0).tp)]) (n := 6) Tryz.isAgg67 Tryz.sizeOf67 rfl (((cells_sub (cells_cast (wide_at CL.len cl0 _ _ (by omega)) hh4) 0 6 rfl).ext hC')) rfl rfl) (m_q rfl rfl (fun w' hC' => qms rfl rfl) (m_q rfl rfl (fun w' hC' => qmi rfl rfl) ?_))))
   obtain ⟨b5, o5, ha5, hh5⟩ := (hk.below hB).at (by decide) k (by omega)
   refine m_q rfl rfl (fun w' hC' => q_indexAddr Tryz.underlying61 Tryz.sizeOf69 rfl ha5 rfl (by omega) rfl) (m_q rfl rfl (fun w' hC' => q_fieldAddr (o' := 6) rfl fld69_1 rfl) (m_q rfl rfl (fun w' hC' => q_load Tryz.isAgg3 rfl ((((cells_cast (wide_at CL.len cl0 _ _ (by omega)) hh5) 6 _ rfl).ext hC')) rfl) (m_q rfl rfl (fun w' hC' => qms rfl rfl) (m_q rfl rfl (fun w' hC' => qmi rfl rfl) ?_))))
   obtain ⟨b6, o6, ha6, hh6⟩ := (hk.below hB).at (by decide) k (by omega)
   refine m_q rfl rfl (fun w' hC' => q_indexAddr Tryz.underlying61 Tryz.sizeOf69 rfl ha6 rfl (by omega) rfl) (m_q rfl rfl (fun w' hC' => q_fieldAddr (o' := 7) rfl fld69_2 rfl) (m_q rfl rfl (fun w' hC' => q_load Tryz.isAgg3 rfl ((((cells_cast (wide_at CL.len cl0 _ _ (by omega)) hh6) 7 _ rfl).ext hC')) rfl) (m_o rfl rfl (o_call Tryz.call24 rfl (wall1_ret ⟨((xs).getD k cl0).x1, ((xs).getD k cl0).y1, ((xs).getD k cl0).x2, ((xs).getD k cl0).y2, ((xs).getD k cl0).ba, ((xs).getD k cl0).tp⟩ _) rfl ?_))))
   rintro _ w7 ⟨rfl, hE7⟩
   refine ⟨hE7, ?_⟩
   replace hB := below_ext hB hE7 hsz
   replace hco := own_ext hco hE7
   replace hsz := Nat.le_trans hsz hE7.size
   refine m_q rfl rfl (fun w' hC' => q_build (v := .agg ⟨[vint (((xs).getD k cl0).x1), vint (((xs).getD k cl0).y1), vint (((xs).getD k cl0).x2), vint (((xs).getD k cl0).y2), vint (((xs).getD k cl0).ba), vint (((xs).getD k cl0).tp), vint (((xs).getD k cl0).fr), vint (((xs).getD k cl0).to)]⟩) (fun w => by kernel_rfl) rfl) (m_o rfl rfl (o_buildSlice (el := 103) (cs := [vint (((xs).getD k cl0).x1), vint (((xs).getD k cl0).y1), vint (((xs).getD k cl0).x2), vint (((xs).getD k cl0).y2), vint (((xs).getD k cl0).ba), vint (((xs).getD k cl0).tp), vint (((xs).getD k cl0).fr), vint (((xs).getD k cl0).to)]) Tryz.underlying85 el103 (by decide) (by kernel_rfl) rfl (by decide) rfl ?_))
   intro b8 w8 hzl8 hzr8 _ hb8 hE8 ho8
   refine ⟨hE8, ?_⟩
   have hbs_b8 : w.heap.size ≤ b8 := Nat.le_trans hsz hzl8
   replace hB := below_ext hB hE8 hsz
   replace hco := own_ext hco hE8
   replace hsz := Nat.le_trans hsz hE8.size
   refine m_last rfl rfl rfl (o_append_wide CL.one (X) (([⟨((xs).getD k cl0).x1, ((xs).getD k cl0).y1, ((xs).getD k cl0).x2, ((xs).getD k cl0).y2, ((xs).getD k cl0).ba, ((xs).getD k cl0).tp, ((xs).getD k cl0).fr, ((xs).getD k cl0).to⟩] : List CL)) Tryz.underlying85 el103 rfl rfl hco rfl (Row.of_owns ho8) (by (try simp only [List.length_append, List.length_cons, List.length_nil, List.length_take, List.length_drop, List.length_replicate]); omega) (by omega) rfl ?_)
   intro a10 c10 w10 hz10 ho10 hG10
   replace hB := below_own hB hG10 hco (by omega) hsz
   replace hsz := Nat.le_trans hsz hG10.size
   refine m_q rfl rfl (fun w' hC' => qas rfl rfl) (m_nil (r_forget [(0, .slice _ _ _), (3, .slice _ _ _), (4, .int _ _)] ⟨rfl, rfl, rfl, trivial⟩ (fun e11 => (r_inBlock (r_region' (l_q (qmi rfl rfl) (l_q (q_add rfl rfl (by omega) rfl) (l_q (qai rfl rfl) (l_nil ?_)))))))))
   exact ih1 (k + 1, a10, c10, X ++ ([⟨((xs).getD k cl0).x1, ((xs).getD k cl0).y1, ((xs).getD k cl0).x2, ((xs).getD k cl0).y2, ((xs).getD k cl0).ba, ((xs).getD k cl0).tp, ((xs).getD k cl0).fr, ((xs).getD k cl0).to⟩] : List CL)) _ _ ⟨⟨rfl, rfl, (vint_eq (by omega)), trivial⟩, (by omega), (by rw [hX]; exact gd_snoc hkx), (by rw [List.length_append, hXl]; rfl), ho10, hsz, hB⟩ (by first | omega | (dsimp only; omega))
  ·
   replace hc2 := dlt hc2
   refine r_exit rfl (r_seq (r_region' (l_q (qms rfl rfl) (l_q (qas rfl rfl) (l_nil (r_ret_ (vs := [.slice _ _ _]) rfl Tryz.func25 rfl (.nil _) ⟨rfl, trivial⟩ ?_))))))
   have hke : k = xs.length := by omega
   subst hke
   rw [List.take_length] at hX
   subst hX
   exact ⟨oa, oc, rfl, hco, Ext.of_below hB⟩
set_option maxHeartbeats 1000000 in
theorem land1_ret (sa : Option Addr) (sc : Nat) (sl : List S4) (ra : Option Addr) (rc : Nat) (rl : List WL) (ka : Option Addr) (kc : Nat) (kl : List KV) (ua : Option Addr) (uc : Nat) (ul : List S3) (w : World) (hla : LandAt w sa sc sl ra rc rl ka kc kl ua uc ul) (hlb : LaBig sl rl kl ul) : Ret Tryz.prog 12 [.agg ⟨[.slice sa sl.length sc, .slice ra rl.length rc, .slice ka kl.length kc, .slice ua ul.length uc]⟩] w (fun v w' => ∃ sa2 sc2 ra2 rc2 ka2 kc2 kl2 ua2 uc2, v = .agg ⟨[.slice sa2 sl.length sc2, .slice ra2 rl.length rc2, .slice ka2 (List.length kl2) kc2, .slice ua2 ul.length uc2]⟩ ∧ LandAt w' sa2 sc2 sl ra2 rc2 rl ka2 kc2 kl2 ua2 uc2 ul ∧ kl2.map KV.xs = kl.map KV.xs ∧ Ext w w') := by
 obtain ⟨hbs, hbr, hbk, hbu, hbc⟩ := hlb
 have hB := Below.refl w.heap.size w
 have hsz : w.heap.size ≤ w.heap.size := Nat.le_refl _
 refine ret_of_runs (args := [_]) Tryz.func12 rfl (Nat.le_of_ble_eq_true rfl) (by kernel_rfl) (r_seq (r_region' (l_o (o_boxt rfl rfl rfl ?_))))
 intro b1 w1 hzl1 hzr1 _ hb1 hty_b1 hE1
 have hbs_b1 : w.heap.size ≤ b1 := Nat.le_trans hsz hzl1
 replace hB := below_ext hB hE1 hsz
 replace hsz := Nat.le_trans hsz hE1.size
 refine l_o (o_alloct Tryz.zeroValue52 rfl rfl ?_)
 intro b2 w2 hzl2 hzr2 _ hb2 hty_b2 hE2
 have hne_b1_b2 : b1 ≠ b2 := by have := hb1.lt; omega
 have hbs_b2 : w.heap.size ≤ b2 := Nat.le_trans hsz hzl2
 replace hB := below_ext hB hE2 hsz
 replace hb1 := hb1.ext hE2
 replace hty_b1 := hty_b1.ext hE2
 replace hsz := Nat.le_trans hsz hE2.size
 refine l_nil (r_seq (r_region' (l_o (o_alloct Tryz.zeroValue52 rfl rfl ?_))))
 intro b3 w3 hzl3 hzr3 _ hb3 hty_b3 hE3
 have hne_b1_b3 : b1 ≠ b3 := by have := hb1.lt; omega
 have hne_b2_b3 : b2 ≠ b3 := by have := hb2.lt; omega
 have hbs_b3 : w.heap.size ≤ b3 := Nat.le_trans hsz hzl3
 replace hB := below_ext hB hE3 hsz
 replace hb1 := hb1.ext hE3
 replace hty_b1 := hty_b1.ext hE3
 replace hb2 := hb2.ext hE3
 replace hty_b2 := hty_b2.ext hE3
 replace hsz := Nat.le_trans hsz hE3.size
 refine l_nil (r_seq (r_seq (r_region' (l_q (qai rfl rfl) (l_nil (r_block (r_rounds (α := Nat × (Option Addr) × Nat × (List S4)) (fun ⟨k0, oa0, oc0, X0⟩ e wl => Knows e [(1, ptr b1 0), (2, ptr b2 0), (3, ptr b3 0), (4, vint (k0 : Int))] ∧ (k0 ≤ sl.length) ∧ (X0 = sl.take k0) ∧ (X0.length = k0) ∧ (Blk wl b3 [.slice oa0 X0.length oc0, .slice none 0 0, .slice none 0 0, .slice none 0 0]) ∧ (wl.ownsRow w.heap.size 72 4 (.slice oa0 X0.length oc0) X0.length (X0.flatMap S4.enc)) ∧ (Blk wl b1 [.slice sa sl.length sc, .slice ra rl.length rc, .slice ka kl.length kc, .slice ua ul.length uc]) ∧ (TyAt wl b1 27) ∧ (Blk wl b2 [.slice none 0 0, .slice none 0 0, .slice none 0 0, .slice none 0 0]) ∧ (TyAt wl b2 52) ∧ (TyAt wl b3 52) ∧ (w.heap.size ≤ wl.heap.size) ∧ (Below w.heap.size w wl)) (fun ⟨k0, oa0, oc0, X0⟩ => sl.length - k0) (0, none, 0, []) ?_ ?_)))))))
 ·
  exact ⟨⟨rfl, rfl, rfl, rfl, trivial⟩, (Nat.zero_le _), rfl, rfl, hb3, (World.ownsRow_nil _ _ _ _), hb1, hty_b1, hb2, hty_b2, hty_b3, hsz, hB⟩
 ·
  rintro ⟨k0, oa0, oc0, X0⟩ el4 wl4 ⟨hkn, hq0, hX0, hl0, hb3, hoq0, hb1, hty_b1, hb2, hty_b2, hty_b3, hsz, hB⟩ ih4
  obtain ⟨e4, rfl⟩ := knows_env hkn
  refine r_seq (r_seq (r_region' (l_q (qmi rfl rfl) (l_q (q_fieldAddr (o' := 0) rfl fld27_0 rfl) (l_q (q_load Tryz.isAgg22 rfl ((hb1.has (o := 0) rfl)) rfl) (l_q (q_len rfl Tryz.underlying22 rfl rfl) (l_q (q_lss rfl rfl rfl) (l_nil (r_cond rfl (fun hc5 => ?_) (fun hc5 => ?_))))))))))
  ·
   replace hc5 := dt hc5
   have hk0 : k0 < sl.length := by omega
   refine r_skip (r_seq (r_block (r_seq (r_region' (l_q (q_fieldAddr (o' := 0) rfl fld27_0 rfl) (l_q (q_load Tryz.isAgg22 rfl ((hb1.has (o := 0) rfl)) rfl) (l_q (qmi rfl rfl) ?_)))))))
   obtain ⟨b6, o6, ha6, hh6⟩ := (hla.rs.below hB).at (by decide) k0 (by omega)
   refine l_q (q_indexAddr Tryz.underlying22 Tryz.sizeOf63 rfl ha6 rfl (by omega) rfl) (l_q (q_load_agg (cs := [vint (((sl).getD k0 s40).x), vint (((sl).getD k0 s40).y), vint (((sl).getD k0 s40).z), vint (((sl).getD k0 s40).m)]) (n := 4) Tryz.isAgg63 Tryz.sizeOf63 rfl ((cells_cast (wide_at S4.len s40 _ _ (by omega)) hh6)) rfl rfl) (l_o (o_alloct Tryz.zeroValue63 rfl rfl ?_)))
   intro b7 w7 hzl7 hzr7 _ hb7 hty_b7 hE7
   have hne_b1_b7 : b1 ≠ b7 := by have := hb1.lt; omega
   have hne_b2_b7 : b2 ≠ b7 := by have := hb2.lt; omega
   have hne_b3_b7 : b3 ≠ b7 := by have := hb3.lt; omega
   have hbs_b7 : w.heap.size ≤ b7 := Nat.le_trans hsz hzl7
   replace hB := below_ext hB hE7 hsz
   replace hb1 := hb1.ext hE7
   replace hty_b1 := hty_b1.ext hE7
   replace hb2 := hb2.ext hE7
   replace hty_b2 := hty_b2.ext hE7
   replace hb3 := hb3.ext hE7
   replace hty_b3 := hty_b3.ext hE7
   replace hoq0 := own_ext hoq0 hE7
   replace hsz := Nat.le_trans hsz hE7.size
   refine l_o (o_storet (vs := [vint (((sl).getD k0 s40).x), vint (((sl).getD k0 s40).y), vint (((sl).getD k0 s40).z), vint (((sl).getD k0 s40).m)]) (cs' := [vint (((sl).getD k0 s40).x), vint (((sl).getD k0 s40).y), vint (((sl).getD k0 s40).z), vint (((sl).getD k0 s40).m)]) Tryz.sizeOf63 rfl rfl rfl rfl hb7 (Nat.le_of_ble_eq_true rfl) rfl rfl ?_)
   intro w8 hz8 hb7 hT8 hG8
   replace hB := below_upd hB hG8 hsz (by omega)
   replace hsz : w.heap.size ≤ w8.heap.size := by rw [hz8]; exact hsz
   replace hb1 := hb1.upd hG8 (by omega)
   replace hty_b1 := hty_b1.upd hG8 (by omega)
   replace hb2 := hb2.upd hG8 (by omega)
   replace hty_b2 := hty_b2.upd hG8 (by omega)
   replace hb3 := hb3.upd hG8 (by omega)
   replace hty_b3 := hty_b3.upd hG8 (by omega)
   replace hoq0 := own_ty_upd hoq0 hty_b7 hG8 (by decide)
   refine l_nil (r_forget [(1, .pointer _), (2, .pointer _), (3, .pointer _), (4, .int _ _), (5, .pointer _)] ⟨rfl, rfl, rfl, rfl, rfl, trivial⟩ (fun e9 => (r_region' (l_q (q_fieldAddr (o' := 0) rfl fld52_0 rfl) (l_q (q_load Tryz.isAgg47 rfl ((hb3.has (o := 0) rfl)) rfl) (l_q (q_fieldAddr (o' := 0) rfl fld63_0 rfl) (l_q (q_load Tryz.isAgg3 rfl ((hb7.has (o := 0) rfl)) rfl) (l_q (q_fieldAddr (o' := 1) rfl fld63_1 rfl) (l_q (q_load Tryz.isAgg3 rfl ((hb7.has (o := 1) rfl)) rfl) (l_q (q_fieldAddr (o' := 2) rfl fld63_2 rfl) (l_q (q_load Tryz.isAgg3 rfl ((hb7.has (o := 2) rfl)) rfl) (l_q (q_fieldAddr (o' := 3) rfl fld63_3 rfl) (l_q (q_load Tryz.isAgg3 rfl ((hb7.has (o := 3) rfl)) rfl) (l_q (q_build (v := .agg ⟨[vint (((sl).getD k0 s40).x), vint (((sl).getD k0 s40).y), vint (((sl).getD k0 s40).z), vint (((sl).getD k0 s40).m)]⟩) (fun w => by kernel_rfl) rfl) ?_))))))))))))))
   refine l_o (o_buildSlice (el := 72) (cs := [vint (((sl).getD k0 s40).x), vint (((sl).getD k0 s40).y), vint (((sl).getD k0 s40).z), vint (((sl).getD k0 s40).m)]) Tryz.underlying47 el72 (by decide) (by kernel_rfl) rfl (by decide) rfl ?_)
   intro b10 w10 hzl10 hzr10 _ hb10 hE10 ho10
   have hne_b1_b10 : b1 ≠ b10 := by have := hb1.lt; omega
   have hne_b2_b10 : b2 ≠ b10 := by have := hb2.lt; omega
   have hne_b3_b10 : b3 ≠ b10 := by have := hb3.lt; omega
   have hne_b7_b10 : b7 ≠ b10 := by have := hb7.lt; omega
   have hbs_b10 : w.heap.size ≤ b10 := Nat.le_trans hsz hzl10
   replace hB := below_ext hB hE10 hsz
   replace hb1 := hb1.ext hE10
   replace hty_b1 := hty_b1.ext hE10
   replace hb2 := hb2.ext hE10
   replace hty_b2 := hty_b2.ext hE10
   replace hb3 := hb3.ext hE10
   replace hty_b3 := hty_b3.ext hE10
   replace hoq0 := own_ext hoq0 hE10
   replace hsz := Nat.le_trans hsz hE10.size
   refine l_o (o_append_wide S4.one (X0) (([⟨((sl).getD k0 s40).x, ((sl).getD k0 s40).y, ((sl).getD k0 s40).z, ((sl).getD k0 s40).m⟩] : List S4)) Tryz.underlying47 el72 rfl rfl hoq0 rfl (Row.of_owns ho10) (by (try simp only [List.length_append, List.length_cons, List.length_nil, List.length_take, List.length_drop, List.length_replicate]); omega) (by omega) rfl ?_)
   intro a12 c12 w12 hz12 ho12 hG12
   replace hB := below_own hB hG12 hoq0 (by omega) hsz
   replace hsz := Nat.le_trans hsz hG12.size
   replace hb1 := hb1.step hG12 (own_ty_ne hoq0 hty_b1 (by decide))
   replace hb2 := hb2.step hG12 (own_ty_ne hoq0 hty_b2 (by decide))
   replace hb3 := hb3.step hG12 (own_ty_ne hoq0 hty_b3 (by decide))
   replace hty_b1 := TyAt.own hty_b1 hoq0 hG12 (by decide)
   replace hty_b2 := TyAt.own hty_b2 hoq0 hG12 (by decide)
   replace hty_b3 := TyAt.own hty_b3 hoq0 hG12 (by decide)
   refine l_q (q_fieldAddr (o' := 0) rfl fld52_0 rfl) (l_o (o_storet (vs := [.slice a12 ((X0 ++ ([⟨((sl).getD k0 s40).x, ((sl).getD k0 s40).y, ((sl).getD k0 s40).z, ((sl).getD k0 s40).m⟩] : List S4)).length) c12]) (cs' := [.slice a12 ((X0 ++ ([⟨((sl).getD k0 s40).x, ((sl).getD k0 s40).y, ((sl).getD k0 s40).z, ((sl).getD k0 s40).m⟩] : List S4)).length) c12, .slice none 0 0, .slice none 0 0, .slice none 0 0]) Tryz.sizeOf47 rfl rfl rfl rfl hb3 (Nat.le_of_ble_eq_true rfl) rfl rfl ?_))
   intro w13 hz13 hb3 hT13 hG13
   replace hB := below_upd hB hG13 hsz (by omega)
   replace hsz : w.heap.size ≤ w13.heap.size := by rw [hz13]; exact hsz
   replace hb1 := hb1.upd hG13 (by omega)
   replace hty_b1 := hty_b1.upd hG13 (by omega)
   replace hb2 := hb2.upd hG13 (by omega)
   replace hty_b2 := hty_b2.upd hG13 (by omega)
   replace ho12 := own_ty_upd ho12 hty_b3 hG13 (by decide)
   replace hty_b3 := hT13 _ hty_b3
   refine l_nil (r_forget [(1, .pointer _), (2, .pointer _), (3, .pointer _), (4, .int _ _)] ⟨rfl, rfl, rfl, rfl, trivial⟩ (fun e14 => (r_inBlock (r_region' (l_q (qmi rfl rfl) (l_q (q_add rfl rfl (by omega) rfl) (l_q (qai rfl rfl) (l_nil ?_))))))))
   exact ih4 (k0 + 1, a12, c12, X0 ++ ([⟨((sl).getD k0 s40).x, ((sl).getD k0 s40).y, ((sl).getD k0 s40).z, ((sl).getD k0 s40).m⟩] : List S4)) _ _ ⟨⟨rfl, rfl, rfl, (vint_eq (by omega)), trivial⟩, (by omega), (by rw [hX0]; exact gd_snoc hk0), (by rw [List.length_append, hl0]; rfl), hb3, ho12, hb1, hty_b1, hb2, hty_b2, hty_b3, hsz, hB⟩ (by first | omega | (dsimp only; omega))
  ·
   replace hc5 := dlt hc5
   refine r_exit rfl (r_seq (r_seq ?_))
   have hz0 : k0 = sl.length := by omega
   rw [hz0, List.take_length] at hX0
   refine r_region' (l_q (qai rfl rfl) (l_nil (r_block ?_)))
   refine r_rounds (α := Nat × (Option Addr) × Nat × (List WL)) (fun ⟨k1, oa1, oc1, X1⟩ e wl => Knows e [(1, ptr b1 0), (2, ptr b2 0), (3, ptr b3 0), (6, vint (k1 : Int))] ∧ (k1 ≤ rl.length) ∧ (X1 = rl.take k1) ∧ (X1.length = k1) ∧ (Blk wl b3 [.slice oa0 X0.length oc0, .slice oa1 X1.length oc1, .slice none 0 0, .slice none 0 0]) ∧ (wl.ownsRow w.heap.size 83 6 (.slice oa1 X1.length oc1) X1.length (X1.flatMap WL.enc)) ∧ (Blk wl b1 [.slice sa sl.length sc, .slice ra rl.length rc, .slice ka kl.length kc, .slice ua ul.length uc]) ∧ (TyAt wl b1 27) ∧ (Blk wl b2 [.slice none 0 0, .slice none 0 0, .slice none 0 0, .slice none 0 0]) ∧ (TyAt wl b2 52) ∧ (TyAt wl b3 52) ∧ (wl.ownsRow w.heap.size 72 4 (.slice oa0 X0.length oc0) X0.length (X0.flatMap S4.enc)) ∧ (w.heap.size ≤ wl.heap.size) ∧ (Below w.heap.size w wl)) (fun ⟨k1, oa1, oc1, X1⟩ => rl.length - k1) (0, none, 0, []) ?_ ?_
   ·
    exact ⟨⟨rfl, rfl, rfl, rfl, trivial⟩, (Nat.zero_le _), rfl, rfl, hb3, (World.ownsRow_nil _ _ _ _), hb1, hty_b1, hb2, hty_b2, hty_b3, hoq0, hsz, hB⟩
   ·
    rintro ⟨k1, oa1, oc1, X1⟩ el15 wl15 ⟨hkn, hq1, hX1, hl1, hb3, hoq1, hb1, hty_b1, hb2, hty_b2, hty_b3, hoq0, hsz, hB⟩ ih15
    obtain ⟨e15, rfl⟩ := knows_env hkn
    refine r_seq (r_seq (r_region' (l_q (qmi rfl rfl) (l_q (q_fieldAddr (o' := 1) rfl fld27_1 rfl) (l_q (q_load Tryz.isAgg23 rfl ((hb1.has (o := 1) rfl)) rfl) (l_q (q_len rfl Tryz.underlying23 rfl rfl) (l_q (q_lss rfl rfl rfl) (l_nil (r_cond rfl (fun hc16 => ?_) (fun hc16 => ?_))))))))))
    ·
     replace hc16 := dt hc16
     have hk1 : k1 < rl.length := by omega
     refine r_skip (r_seq (r_block (r_draw ext_refl' ext_trans' [0, 1, 2, 3, 4, 5, 6, 7, 8, 9, 10, 11] [7, 8, 9, 11, 1009, 1011] 20 (by kernel_rfl) (by kernel_rfl) ?_)))
     intro w17 _ hE17
     replace hB := below_ext hB hE17 hsz
     replace hb1 := hb1.ext hE17
     replace hty_b1 := hty_b1.ext hE17
     replace hb2 := hb2.ext hE17
     replace hty_b2 := hty_b2.ext hE17
     replace hb3 := hb3.ext hE17
     replace hty_b3 := hty_b3.ext hE17
     replace hoq0 := own_ext hoq0 hE17
     replace hoq1 := own_ext hoq1 hE17
     replace hsz := Nat.le_trans hsz hE17.size
     refine m_q rfl rfl (fun w' hC' => q_fieldAddr (o' := 1) rfl fld52_1 rfl) (m_q rfl rfl (fun w' hC' => q_load Tryz.isAgg48 rfl (((hb3.has (o := 1) rfl).ext hC')) rfl) (m_q rfl rfl (fun w' hC' => q_fieldAddr (o' := 1) rfl fld27_1 rfl) (m_q rfl rfl (fun w' hC' => q_load Tryz.isAgg23 rfl (((hb1.has (o := 1) rfl).ext hC')) rfl) (m_q rfl rfl (fun w' hC' => qmi rfl rfl) ?_))))
     obtain ⟨b18, o18, ha18, hh18⟩ := (hla.rr.below hB).at (by decide) k1 (by omega)
     refine m_q rfl rfl (fun w' hC' => q_indexAddr Tryz.underlying23 Tryz.sizeOf67 rfl ha18 rfl (by omega) rfl) (m_q rfl rfl (fun w' hC' => q_load_agg (cs := [vint (((rl).getD k1 wl0).x1), vint (((rl).getD k1 wl0).y1), vint (((rl).getD k1 wl0).x2), vint (((rl).getD k1 wl0).y2), vint (((rl).getD k1 wl0).ba), vint (((rl).getD k1 wl0).tp)]) (n := 6) Tryz.isAgg67 Tryz.sizeOf67 rfl (((cells_cast (wide_at WL.len wl0 _ _ (by omega)) hh18).ext hC')) rfl rfl) (m_o rfl rfl (o_call Tryz.call24 rfl (wall1_ret ⟨((rl).getD k1 wl0).x1, ((rl).getD k1 wl0).y1, ((rl).getD k1 wl0).x2, ((rl).getD k1 wl0).y2, ((rl).getD k1 wl0).ba, ((rl).getD k1 wl0).tp⟩ _) rfl ?_)))
     rintro _ w19 ⟨rfl, hE19⟩
     refine ⟨hE19, ?_⟩
     replace hB := below_ext hB hE19 hsz
     replace hb1 := hb1.ext hE19
     replace hty_b1 := hty_b1.ext hE19
     replace hb2 := hb2.ext hE19
     replace hty_b2 := hty_b2.ext hE19
     replace hb3 := hb3.ext hE19
     replace hty_b3 := hty_b3.ext hE19
     replace hoq0 := own_ext hoq0 hE19
     replace hoq1 := own_ext hoq1 hE19
     replace hsz := Nat.le_trans hsz hE19.size
     refine m_o rfl rfl (o_buildSlice (el := 83) (cs := [vint (((rl).getD k1 wl0).x1), vint (((rl).getD k1 wl0).y1), vint (((rl).getD k1 wl0).x2), vint (((rl).getD k1 wl0).y2), vint (((rl).getD k1 wl0).ba), vint (((rl).getD k1 wl0).tp)]) Tryz.underlying48 el83 (by decide) (by kernel_rfl) rfl (by decide) rfl ?_)
     intro b20 w20 hzl20 hzr20 _ hb20 hE20 ho20
     refine ⟨hE20, ?_⟩
     have hne_b1_b20 : b1 ≠ b20 := by have := hb1.lt; omega
     have hne_b2_b20 : b2 ≠ b20 := by have := hb2.lt; omega
     have hne_b3_b20 : b3 ≠ b20 := by have := hb3.lt; omega
     have hbs_b20 : w.heap.size ≤ b20 := Nat.le_trans hsz hzl20
     replace hB := below_ext hB hE20 hsz
     replace hb1 := hb1.ext hE20
     replace hty_b1 := hty_b1.ext hE20
     replace hb2 := hb2.ext hE20
     replace hty_b2 := hty_b2.ext hE20
     replace hb3 := hb3.ext hE20
     replace hty_b3 := hty_b3.ext hE20
     replace hoq0 := own_ext hoq0 hE20
     replace hoq1 := own_ext hoq1 hE20
     replace hsz := Nat.le_trans hsz hE20.size
     refine m_last rfl rfl rfl (o_append_wide WL.one (X1) (([⟨((rl).getD k1 wl0).x1, ((rl).getD k1 wl0).y1, ((rl).getD k1 wl0).x2, ((rl).getD k1 wl0).y2, ((rl).getD k1 wl0).ba, ((rl).getD k1 wl0).tp⟩] : List WL)) Tryz.underlying48 el83 rfl rfl hoq1 rfl (Row.of_owns ho20) (by (try simp only [List.length_append, List.length_cons, List.length_nil, List.length_take, List.length_drop, List.length_replicate]); omega) (by omega) rfl ?_)
     intro a22 c22 w22 hz22 ho22 hG22
     replace hB := below_own hB hG22 hoq1 (by omega) hsz
     replace hsz := Nat.le_trans hsz hG22.size
     replace hb1 := hb1.step hG22 (own_ty_ne hoq1 hty_b1 (by decide))
     replace hb2 := hb2.step hG22 (own_ty_ne hoq1 hty_b2 (by decide))
     replace hb3 := hb3.step hG22 (own_ty_ne hoq1 hty_b3 (by decide))
     replace hoq0 := own_kept hoq0 hoq1 (by decide) hG22
     replace hty_b1 := TyAt.own hty_b1 hoq1 hG22 (by decide)
     replace hty_b2 := TyAt.own hty_b2 hoq1 hG22 (by decide)
     replace hty_b3 := TyAt.own hty_b3 hoq1 hG22 (by decide)
     refine m_q rfl rfl (fun w' hC' => q_fieldAddr (o' := 1) rfl fld52_1 rfl) (m_last rfl rfl rfl (o_storet (vs := [.slice a22 ((X1 ++ ([⟨((rl).getD k1 wl0).x1, ((rl).getD k1 wl0).y1, ((rl).getD k1 wl0).x2, ((rl).getD k1 wl0).y2, ((rl).getD k1 wl0).ba, ((rl).getD k1 wl0).tp⟩] : List WL)).length) c22]) (cs' := [.slice oa0 X0.length oc0, .slice a22 ((X1 ++ ([⟨((rl).getD k1 wl0).x1, ((rl).getD k1 wl0).y1, ((rl).getD k1 wl0).x2, ((rl).getD k1 wl0).y2, ((rl).getD k1 wl0).ba, ((rl).getD k1 wl0).tp⟩] : List WL)).length) c22, .slice none 0 0, .slice none 0 0]) Tryz.sizeOf48 rfl rfl rfl rfl hb3 (Nat.le_of_ble_eq_true rfl) rfl rfl ?_))
     intro w23 hz23 hb3 hT23 hG23
     replace hB := below_upd hB hG23 hsz (by omega)
     replace hsz : w.heap.size ≤ w23.heap.size := by rw [hz23]; exact hsz
     replace hb1 := hb1.upd hG23 (by omega)
     replace hty_b1 := hty_b1.upd hG23 (by omega)
     replace hb2 := hb2.upd hG23 (by omega)
     replace hty_b2 := hty_b2.upd hG23 (by omega)
     replace hoq0 := own_ty_upd hoq0 hty_b3 hG23 (by decide)
     replace ho22 := own_ty_upd ho22 hty_b3 hG23 (by decide)
     replace hty_b3 := hT23 _ hty_b3
     refine m_nil (r_forget [(1, .pointer _), (2, .pointer _), (3, .pointer _), (6, .int _ _)] ⟨rfl, rfl, rfl, rfl, trivial⟩ (fun e24 => (r_inBlock (r_region' (l_q (qmi rfl rfl) (l_q (q_add rfl rfl (by omega) rfl) (l_q (qai rfl rfl) (l_nil ?_))))))))
     exact ih15 (k1 + 1, a22, c22, X1 ++ ([⟨((rl).getD k1 wl0).x1, ((rl).getD k1 wl0).y1, ((rl).getD k1 wl0).x2, ((rl).getD k1 wl0).y2, ((rl).getD k1 wl0).ba, ((rl).getD k1 wl0).tp⟩] : List WL)) _ _ ⟨⟨rfl, rfl, rfl, (vint_eq (by omega)), trivial⟩, (by omega), (by rw [hX1]; exact gd_snoc hk1), (by rw [List.length_append, hl1]; rfl), hb3, ho22, hb1, hty_b1, hb2, hty_b2, hty_b3, hoq0, hsz, hB⟩ (by first | omega | (dsimp only; omega))
    ·
     replace hc16 := dlt hc16
     refine r_exit rfl (r_seq (r_seq ?_))
     have hz1 : k1 = rl.length := by omega
     rw [hz1, List.take_length] at hX1
     refine r_region' (l_q (qai rfl rfl) (l_nil (r_block ?_)))
     refine r_rounds (α := Nat × (Option Addr) × Nat × (List KV)) (fun ⟨k2, oa2, oc2, X2⟩ e wl => Knows e [(1, ptr b1 0), (2, ptr b2 0), (3, ptr b3 0), (7, vint (k2 : Int))] ∧ (k2 ≤ kl.length) ∧ (X2.map KV.xs = (kl.take k2).map KV.xs) ∧ (X2.length = k2) ∧ (Blk wl b3 [.slice oa0 X0.length oc0, .slice oa1 X1.length oc1, .slice oa2 X2.length oc2, .slice none 0 0]) ∧ (wl.ownsRow w.heap.size 85 1 (.slice oa2 X2.length oc2) X2.length (X2.map KV.enc)) ∧ (OwnsK wl w.heap.size 103 X2) ∧ (Blk wl b1 [.slice sa sl.length sc, .slice ra rl.length rc, .slice ka kl.length kc, .slice ua ul.length uc]) ∧ (TyAt wl b1 27) ∧ (Blk wl b2 [.slice none 0 0, .slice none 0 0, .slice none 0 0, .slice none 0 0]) ∧ (TyAt wl b2 52) ∧ (TyAt wl b3 52) ∧ (wl.ownsRow w.heap.size 72 4 (.slice oa0 X0.length oc0) X0.length (X0.flatMap S4.enc)) ∧ (wl.ownsRow w.heap.size 83 6 (.slice oa1 X1.length oc1) X1.length (X1.flatMap WL.enc)) ∧ (w.heap.size ≤ wl.heap.size) ∧ (Below w.heap.size w wl)) (fun ⟨k2, oa2, oc2, X2⟩ => kl.length - k2) (0, none, 0, []) ?_ ?_
     ·
      exact ⟨⟨rfl, rfl, rfl, rfl, trivial⟩, (Nat.zero_le _), rfl, rfl, hb3, (World.ownsRow_nil _ _ _ _), (OwnsK.nil _ _ _), hb1, hty_b1, hb2, hty_b2, hty_b3, hoq0, hoq1, hsz, hB⟩
     ·
      rintro ⟨k2, oa2, oc2, X2⟩ el25 wl25 ⟨hkn, hq2, hX2, hl2, hb3, hoq2, hKi, hb1, hty_b1, hb2, hty_b2, hty_b3, hoq0, hoq1, hsz, hB⟩ ih25
      obtain ⟨e25, rfl⟩ := knows_env hkn
      refine r_seq (r_seq (r_region' (l_q (qmi rfl rfl) (l_q (q_fieldAddr (o' := 2) rfl fld27_2 rfl) (l_q (q_load Tryz.isAgg24 rfl ((hb1.has (o := 2) rfl)) rfl) (l_q (q_len rfl Tryz.underlying24 rfl rfl) (l_q (q_lss rfl rfl rfl) (l_nil (r_cond rfl (fun hc26 => ?_) (fun hc26 => ?_))))))))))
      ·
       replace hc26 := dt hc26
       have hk2 : k2 < kl.length := by omega
       refine r_skip (r_seq (r_block (r_draw ext_refl' ext_trans' [0, 1, 2, 3, 4, 5, 6, 7, 8, 9, 10, 11] [7, 8, 9, 11, 1009, 1011] 20 (by kernel_rfl) (by kernel_rfl) ?_)))
       intro w27 _ hE27
       replace hB := below_ext hB hE27 hsz
       replace hb1 := hb1.ext hE27
       replace hty_b1 := hty_b1.ext hE27
       replace hb2 := hb2.ext hE27
       replace hty_b2 := hty_b2.ext hE27
       replace hb3 := hb3.ext hE27
       replace hty_b3 := hty_b3.ext hE27
       replace hoq0 := own_ext hoq0 hE27
       replace hoq1 := own_ext hoq1 hE27
       replace hoq2 := own_ext hoq2 hE27
       replace hKi := hKi.ext hE27
       replace hsz := Nat.le_trans hsz hE27.size
       refine m_q rfl rfl (fun w' hC' => q_fieldAddr (o' := 2) rfl fld52_2 rfl) (m_q rfl rfl (fun w' hC' => q_load Tryz.isAgg49 rfl (((hb3.has (o := 2) rfl).ext hC')) rfl) (m_q rfl rfl (fun w' hC' => q_fieldAddr (o' := 2) rfl fld27_2 rfl) (m_q rfl rfl (fun w' hC' => q_load Tryz.isAgg24 rfl (((hb1.has (o := 2) rfl).ext hC')) rfl) (m_q rfl rfl (fun w' hC' => qmi rfl rfl) ?_))))
       obtain ⟨b28, o28, ha28, hh28⟩ := (hla.rk.below hB).at1 k2 ((kl).getD k2 kv0) (getD_some (by omega))
       refine m_q rfl rfl (fun w' hC' => q_indexAddr1 Tryz.underlying24 Tryz.sizeOf61 rfl ha28 rfl (by omega) rfl) (m_q rfl rfl (fun w' hC' => q_load Tryz.isAgg61 rfl ((hh28.ext hC')) rfl) (m_o rfl rfl (o_call Tryz.call25 rfl (clouds1_ret _ _ (((kl).getD k2 kv0).xs) _ ((RowsK.get (hla.rkr) (i := k2) (by omega)).below hB) (hbc _ (getD_lt (d := kv0) hk2))) rfl ?_)))
       rintro _ w29 ⟨ca29, cc29, rfl, hcw29, hE29⟩
       replace hcw29 := own_mono hcw29 (show w.heap.size ≤ _ by omega)
       refine ⟨hE29, ?_⟩
       replace hB := below_ext hB hE29 hsz
       replace hb1 := hb1.ext hE29
       replace hty_b1 := hty_b1.ext hE29
       replace hb2 := hb2.ext hE29
       replace hty_b2 := hty_b2.ext hE29
       replace hb3 := hb3.ext hE29
       replace hty_b3 := hty_b3.ext hE29
       replace hoq0 := own_ext hoq0 hE29
       replace hoq1 := own_ext hoq1 hE29
       replace hoq2 := own_ext hoq2 hE29
       replace hKi := hKi.ext hE29
       replace hsz := Nat.le_trans hsz hE29.size
       refine m_o rfl rfl (o_buildSlice (el := 85) (cs := [.slice ca29 (((kl).getD k2 kv0).xs.length) cc29]) Tryz.underlying49 el85 (by decide) (by kernel_rfl) rfl (by decide) rfl ?_)
       intro b30 w30 hzl30 hzr30 _ hb30 hE30 ho30
       refine ⟨hE30, ?_⟩
       have hne_b1_b30 : b1 ≠ b30 := by have := hb1.lt; omega
       have hne_b2_b30 : b2 ≠ b30 := by have := hb2.lt; omega
       have hne_b3_b30 : b3 ≠ b30 := by have := hb3.lt; omega
       have hbs_b30 : w.heap.size ≤ b30 := Nat.le_trans hsz hzl30
       replace hB := below_ext hB hE30 hsz
       replace hb1 := hb1.ext hE30
       replace hty_b1 := hty_b1.ext hE30
       replace hb2 := hb2.ext hE30
       replace hty_b2 := hty_b2.ext hE30
       replace hb3 := hb3.ext hE30
       replace hty_b3 := hty_b3.ext hE30
       replace hoq0 := own_ext hoq0 hE30
       replace hoq1 := own_ext hoq1 hE30
       replace hoq2 := own_ext hoq2 hE30
       replace hKi := hKi.ext hE30
       replace hcw29 := own_ext hcw29 hE30
       replace hsz := Nat.le_trans hsz hE30.size
       refine m_last rfl rfl rfl (o_append_map (f := KV.enc) (X2) (([⟨ca29, cc29, (((kl).getD k2 kv0).xs)⟩] : List KV)) Tryz.underlying49 el85 rfl rfl hoq2 rfl (Row.of_owns ho30) (fun _ => rfl) (by (try simp only [List.length_append, List.length_cons, List.length_nil]); omega) (by omega) rfl ?_)
       intro a31 c31 w31 hz31 ho31 hG31
       replace hB := below_own hB hG31 hoq2 (by omega) hsz
       replace hsz := Nat.le_trans hsz hG31.size
       replace hb1 := hb1.step hG31 (own_ty_ne hoq2 hty_b1 (by decide))
       replace hb2 := hb2.step hG31 (own_ty_ne hoq2 hty_b2 (by decide))
       replace hb3 := hb3.step hG31 (own_ty_ne hoq2 hty_b3 (by decide))
       replace hoq0 := own_kept hoq0 hoq2 (by decide) hG31
       replace hoq1 := own_kept hoq1 hoq2 (by decide) hG31
       replace hKi := hKi.kept hoq2 (by decide) hG31
       replace hcw29 := own_kept hcw29 hoq2 (by decide) hG31
       replace hty_b1 := TyAt.own hty_b1 hoq2 hG31 (by decide)
       replace hty_b2 := TyAt.own hty_b2 hoq2 hG31 (by decide)
       replace hty_b3 := TyAt.own hty_b3 hoq2 hG31 (by decide)
       replace hKi := hKi.snoc (p := ⟨ca29, cc29, (((kl).getD k2 kv0).xs)⟩) (own_mono hcw29 (by omega))
       refine m_q rfl rfl (fun w' hC' => q_fieldAddr (o' := 2) rfl fld52_2 rfl) (m_last rfl rfl rfl (o_storet (vs := [.slice a31 ((X2 ++ ([⟨ca29, cc29, (((kl).getD k2 kv0).xs)⟩] : List KV)).length) c31]) (cs' := [.slice oa0 X0.length oc0, .slice oa1 X1.length oc1, .slice a31 ((X2 ++ ([⟨ca29, cc29, (((kl).getD k2 kv0).xs)⟩] : List KV)).length) c31, .slice none 0 0]) Tryz.sizeOf49 rfl rfl rfl rfl hb3 (Nat.le_of_ble_eq_true rfl) rfl rfl ?_))
       intro w32 hz32 hb3 hT32 hG32
       replace hB := below_upd hB hG32 hsz (by omega)
       replace hsz : w.heap.size ≤ w32.heap.size := by rw [hz32]; exact hsz
       replace hb1 := hb1.upd hG32 (by omega)
       replace hty_b1 := hty_b1.upd hG32 (by omega)
       replace hb2 := hb2.upd hG32 (by omega)
       replace hty_b2 := hty_b2.upd hG32 (by omega)
       replace hoq0 := own_ty_upd hoq0 hty_b3 hG32 (by decide)
       replace hoq1 := own_ty_upd hoq1 hty_b3 hG32 (by decide)
       replace hKi := OwnsK.tyupd hKi hty_b3 hG32 (by decide)
       replace hcw29 := own_ty_upd hcw29 hty_b3 hG32 (by decide)
       replace ho31 := own_ty_upd ho31 hty_b3 hG32 (by decide)
       replace hty_b3 := hT32 _ hty_b3
       refine m_nil (r_forget [(1, .pointer _), (2, .pointer _), (3, .pointer _), (7, .int _ _)] ⟨rfl, rfl, rfl, rfl, trivial⟩ (fun e33 => (r_inBlock (r_region' (l_q (qmi rfl rfl) (l_q (q_add rfl rfl (by omega) rfl) (l_q (qai rfl rfl) (l_nil ?_))))))))
       exact ih25 (k2 + 1, a31, c31, (X2 ++ ([⟨ca29, cc29, (((kl).getD k2 kv0).xs)⟩] : List KV))) _ _ ⟨⟨rfl, rfl, rfl, (vint_eq (by omega)), trivial⟩, (by omega), (kvx_snoc hk2 hX2), (by rw [List.length_append, hl2]; rfl), hb3, ho31, hKi, hb1, hty_b1, hb2, hty_b2, hty_b3, hoq0, hoq1, hsz, hB⟩ (by first | omega | (dsimp only; omega))
      ·
       replace hc26 := dlt hc26
       refine r_exit rfl (r_seq (r_seq ?_))
       have hz2 : k2 = kl.length := by omega
       rw [hz2, List.take_length] at hX2
       refine r_region' (l_q (qai rfl rfl) (l_nil (r_block ?_)))
       refine r_rounds (α := Nat × (Option Addr) × Nat × (List S3)) (fun ⟨k3, oa3, oc3, X3⟩ e wl => Knows e [(1, ptr b1 0), (2, ptr b2 0), (3, ptr b3 0), (8, vint (k3 : Int))] ∧ (k3 ≤ ul.length) ∧ (X3 = ul.take k3) ∧ (X3.length = k3) ∧ (Blk wl b3 [.slice oa0 X0.length oc0, .slice oa1 X1.length oc1, .slice oa2 X2.length oc2, .slice oa3 X3.length oc3]) ∧ (wl.ownsRow w.heap.size 73 3 (.slice oa3 X3.length oc3) X3.length (X3.flatMap S3.enc)) ∧ (Blk wl b1 [.slice sa sl.length sc, .slice ra rl.length rc, .slice ka kl.length kc, .slice ua ul.length uc]) ∧ (TyAt wl b1 27) ∧ (Blk wl b2 [.slice none 0 0, .slice none 0 0, .slice none 0 0, .slice none 0 0]) ∧ (TyAt wl b2 52) ∧ (TyAt wl b3 52) ∧ (wl.ownsRow w.heap.size 72 4 (.slice oa0 X0.length oc0) X0.length (X0.flatMap S4.enc)) ∧ (wl.ownsRow w.heap.size 83 6 (.slice oa1 X1.length oc1) X1.length (X1.flatMap WL.enc)) ∧ (wl.ownsRow w.heap.size 85 1 (.slice oa2 X2.length oc2) X2.length (X2.map KV.enc)) ∧ (OwnsK wl w.heap.size 103 X2) ∧ (w.heap.size ≤ wl.heap.size) ∧ (Below w.heap.size w wl)) (fun ⟨k3, oa3, oc3, X3⟩ => ul.length - k3) (0, none, 0, []) ?_ ?_
       ·
        exact ⟨⟨rfl, rfl, rfl, rfl, trivial⟩, (Nat.zero_le _), rfl, rfl, hb3, (World.ownsRow_nil _ _ _ _), hb1, hty_b1, hb2, hty_b2, hty_b3, hoq0, hoq1, hoq2, hKi, hsz, hB⟩
       ·
        rintro ⟨k3, oa3, oc3, X3⟩ el34 wl34 ⟨hkn, hq3, hX3, hl3, hb3, hoq3, hb1, hty_b1, hb2, hty_b2, hty_b3, hoq0, hoq1, hoq2, hKi, hsz, hB⟩ ih34
        obtain ⟨e34, rfl⟩ := knows_env hkn
        refine r_seq (r_seq (r_region' (l_q (qmi rfl rfl) (l_q (q_fieldAddr (o' := 3) rfl fld27_3 rfl) (l_q (q_load Tryz.isAgg25 rfl ((hb1.has (o := 3) rfl)) rfl) (l_q (q_len rfl Tryz.underlying25 rfl rfl) (l_q (q_lss rfl rfl rfl) (l_nil (r_cond rfl (fun hc35 => ?_) (fun hc35 => ?_))))))))))
        ·
         replace hc35 := dt hc35
         have hk3 : k3 < ul.length := by omega
         refine r_skip (r_seq (r_block (r_draw ext_refl' ext_trans' [0, 1, 2, 3, 4, 5, 6, 7, 8, 9, 10, 11, 12, 13, 14, 15, 16, 17, 18, 19, 20, 21, 22, 23, 24] [21, 22, 24, 1022, 1024] 26 (by kernel_rfl) (by kernel_rfl) ?_)))
         intro w36 _ hE36
         replace hB := below_ext hB hE36 hsz
         replace hb1 := hb1.ext hE36
         replace hty_b1 := hty_b1.ext hE36
         replace hb2 := hb2.ext hE36
         replace hty_b2 := hty_b2.ext hE36
         replace hb3 := hb3.ext hE36
         replace hty_b3 := hty_b3.ext hE36
         replace hoq0 := own_ext hoq0 hE36
         replace hoq1 := own_ext hoq1 hE36
         replace hoq2 := own_ext hoq2 hE36
         replace hKi := hKi.ext hE36
         replace hoq3 := own_ext hoq3 hE36
         replace hsz := Nat.le_trans hsz hE36.size
         refine m_q rfl rfl (fun w' hC' => q_fieldAddr (o' := 3) rfl fld52_3 rfl) (m_q rfl rfl (fun w' hC' => q_load Tryz.isAgg50 rfl (((hb3.has (o := 3) rfl).ext hC')) rfl) (m_q rfl rfl (fun w' hC' => q_fieldAddr (o' := 3) rfl fld27_3 rfl) (m_q rfl rfl (fun w' hC' => q_load Tryz.isAgg25 rfl (((hb1.has (o := 3) rfl).ext hC')) rfl) (m_q rfl rfl (fun w' hC' => qmi rfl rfl) ?_))))
         obtain ⟨b37, o37, ha37, hh37⟩ := (hla.ru.below hB).at (by decide) k3 (by omega)
         refine m_q rfl rfl (fun w' hC' => q_indexAddr Tryz.underlying25 Tryz.sizeOf71 rfl ha37 rfl (by omega) rfl) (m_q rfl rfl (fun w' hC' => q_fieldAddr (o' := 0) rfl fld71_0 rfl) (m_q rfl rfl (fun w' hC' => q_load Tryz.isAgg3 rfl ((((cells_cast (wide_at S3.len s30 _ _ (by omega)) hh37) 0 _ rfl).ext hC')) rfl) (m_q rfl rfl (fun w' hC' => q_fieldAddr (o' := 3) rfl fld27_3 rfl) (m_q rfl rfl (fun w' hC' => q_load Tryz.isAgg25 rfl (((hb1.has (o := 3) rfl).ext hC')) rfl) (m_q rfl rfl (fun w' hC' => qmi rfl rfl) ?_)))))
         obtain ⟨b38, o38, ha38, hh38⟩ := (hla.ru.below hB).at (by decide) k3 (by omega)
         refine m_q rfl rfl (fun w' hC' => q_indexAddr Tryz.underlying25 Tryz.sizeOf71 rfl ha38 rfl (by omega) rfl) (m_q rfl rfl (fun w' hC' => q_fieldAddr (o' := 1) rfl fld71_1 rfl) (m_q rfl rfl (fun w' hC' => q_load Tryz.isAgg3 rfl ((((cells_cast (wide_at S3.len s30 _ _ (by omega)) hh38) 1 _ rfl).ext hC')) rfl) (m_q rfl rfl (fun w' hC' => q_fieldAddr (o' := 3) rfl fld27_3 rfl) (m_q rfl rfl (fun w' hC' => q_load Tryz.isAgg25 rfl (((hb1.has (o := 3) rfl).ext hC')) rfl) (m_q rfl rfl (fun w' hC' => qmi rfl rfl) ?_)))))
         obtain ⟨b39, o39, ha39, hh39⟩ := (hla.ru.below hB).at (by decide) k3 (by omega)
         refine m_q rfl rfl (fun w' hC' => q_indexAddr Tryz.underlying25 Tryz.sizeOf71 rfl ha39 rfl (by omega) rfl) (m_q rfl rfl (fun w' hC' => q_fieldAddr (o' := 2) rfl fld71_2 rfl) (m_q rfl rfl (fun w' hC' => q_load Tryz.isAgg3 rfl ((((cells_cast (wide_at S3.len s30 _ _ (by omega)) hh39) 2 _ rfl).ext hC')) rfl) (m_q rfl rfl (fun w' hC' => q_build (v := .agg ⟨[vint (((ul).getD k3 s30).e), vint (((ul).getD k3 s30).n), vint (((ul).getD k3 s30).u)]⟩) (fun w => by kernel_rfl) rfl) (m_o rfl rfl (o_buildSlice (el := 73) (cs := [vint (((ul).getD k3 s30).e), vint (((ul).getD k3 s30).n), vint (((ul).getD k3 s30).u)]) Tryz.underlying50 el73 (by decide) (by kernel_rfl) rfl (by decide) rfl ?_)))))
         intro b40 w40 hzl40 hzr40 _ hb40 hE40 ho40
         refine ⟨hE40, ?_⟩
         have hne_b1_b40 : b1 ≠ b40 := by have := hb1.lt; omega
         have hne_b2_b40 : b2 ≠ b40 := by have := hb2.lt; omega
         have hne_b3_b40 : b3 ≠ b40 := by have := hb3.lt; omega
         have hbs_b40 : w.heap.size ≤ b40 := Nat.le_trans hsz hzl40
         replace hB := below_ext hB hE40 hsz
         replace hb1 := hb1.ext hE40
         replace hty_b1 := hty_b1.ext hE40
         replace hb2 := hb2.ext hE40
         replace hty_b2 := hty_b2.ext hE40
         replace hb3 := hb3.ext hE40
         replace hty_b3 := hty_b3.ext hE40
         replace hoq0 := own_ext hoq0 hE40
         replace hoq1 := own_ext hoq1 hE40
         replace hoq2 := own_ext hoq2 hE40
         replace hKi := hKi.ext hE40
         replace hoq3 := own_ext hoq3 hE40
         replace hsz := Nat.le_trans hsz hE40.size
         refine m_last rfl rfl rfl (o_append_wide S3.one (X3) (([⟨((ul).getD k3 s30).e, ((ul).getD k3 s30).n, ((ul).getD k3 s30).u⟩] : List S3)) Tryz.underlying50 el73 rfl rfl hoq3 rfl (Row.of_owns ho40) (by (try simp only [List.length_append, List.length_cons, List.length_nil, List.length_take, List.length_drop, List.length_replicate]); omega) (by omega) rfl ?_)
         intro a42 c42 w42 hz42 ho42 hG42
         replace hB := below_own hB hG42 hoq3 (by omega) hsz
         replace hsz := Nat.le_trans hsz hG42.size
         replace hb1 := hb1.step hG42 (own_ty_ne hoq3 hty_b1 (by decide))
         replace hb2 := hb2.step hG42 (own_ty_ne hoq3 hty_b2 (by decide))
         replace hb3 := hb3.step hG42 (own_ty_ne hoq3 hty_b3 (by decide))
         replace hoq0 := own_kept hoq0 hoq3 (by decide) hG42
         replace hoq1 := own_kept hoq1 hoq3 (by decide) hG42
         replace hoq2 := own_kept hoq2 hoq3 (by decide) hG42
         replace hKi := hKi.kept hoq3 (by decide) hG42
         replace hty_b1 := TyAt.own hty_b1 hoq3 hG42 (by decide)
         replace hty_b2 := TyAt.own hty_b2 hoq3 hG42 (by decide)
         replace hty_b3 := TyAt.own hty_b3 hoq3 hG42 (by decide)
         refine m_q rfl rfl (fun w' hC' => q_fieldAddr (o' := 3) rfl fld52_3 rfl) (m_last rfl rfl rfl (o_storet (vs := [.slice a42 ((X3 ++ ([⟨((ul).getD k3 s30).e, ((ul).getD k3 s30).n, ((ul).getD k3 s30).u⟩] : List S3)).length) c42]) (cs' := [.slice oa0 X0.length oc0, .slice oa1 X1.length oc1, .slice oa2 X2.length oc2, .slice a42 ((X3 ++ ([⟨((ul).getD k3 s30).e, ((ul).getD k3 s30).n, ((ul).getD k3 s30).u⟩] : List S3)).length) c42]) Tryz.sizeOf50 rfl rfl rfl rfl hb3 (Nat.le_of_ble_eq_true rfl) rfl rfl ?_))
         intro w43 hz43 hb3 hT43 hG43
         replace hB := below_upd hB hG43 hsz (by omega)
         replace hsz : w.heap.size ≤ w43.heap.size := by rw [hz43]; exact hsz
         replace hb1 := hb1.upd hG43 (by omega)
         replace hty_b1 := hty_b1.upd hG43 (by omega)
         replace hb2 := hb2.upd hG43 (by omega)
         replace hty_b2 := hty_b2.upd hG43 (by omega)
         replace hoq0 := own_ty_upd hoq0 hty_b3 hG43 (by decide)
         replace hoq1 := own_ty_upd hoq1 hty_b3 hG43 (by decide)
         replace hoq2 := own_ty_upd hoq2 hty_b3 hG43 (by decide)
         replace hKi := OwnsK.tyupd hKi hty_b3 hG43 (by decide)
         replace ho42 := own_ty_upd ho42 hty_b3 hG43 (by decide)
         replace hty_b3 := hT43 _ hty_b3
         refine m_nil (r_forget [(1, .pointer _), (2, .pointer _), (3, .pointer _), (8, .int _ _)] ⟨rfl, rfl, rfl, rfl, trivial⟩ (fun e44 => (r_inBlock (r_region' (l_q (qmi rfl rfl) (l_q (q_add rfl rfl (by omega) rfl) (l_q (qai rfl rfl) (l_nil ?_))))))))
         exact ih34 (k3 + 1, a42, c42, X3 ++ ([⟨((ul).getD k3 s30).e, ((ul).getD k3 s30).n, ((ul).getD k3 s30).u⟩] : List S3)) _ _ ⟨⟨rfl, rfl, rfl, (vint_eq (by omega)), trivial⟩, (by omega), (by rw [hX3]; exact gd_snoc hk3), (by rw [List.length_append, hl3]; rfl), hb3, ho42, hb1, hty_b1, hb2, hty_b2, hty_b3, hoq0, hoq1, hoq2, hKi, hsz, hB⟩ (by first | omega | (dsimp only; omega))
        ·
         replace hc35 := dlt hc35
         refine r_exit rfl (r_seq (r_region' (l_q (q_load_agg (n := 4) Tryz.isAgg52 Tryz.sizeOf52 rfl ((hb3.cells' (cs' := [_, _, _, _]) 0 4 rfl)) rfl rfl) (l_o (o_storet (vs := [.slice oa0 X0.length oc0, .slice oa1 X1.length oc1, .slice oa2 X2.length oc2, .slice oa3 X3.length oc3]) (cs' := [.slice oa0 X0.length oc0, .slice oa1 X1.length oc1, .slice oa2 X2.length oc2, .slice oa3 X3.length oc3]) Tryz.sizeOf52 rfl rfl rfl rfl hb2 (Nat.le_of_ble_eq_true rfl) rfl rfl ?_)))))
         intro w45 hz45 hb2 hT45 hG45
         replace hB := below_upd hB hG45 hsz (by omega)
         replace hsz : w.heap.size ≤ w45.heap.size := by rw [hz45]; exact hsz
         replace hoq0 := own_ty_upd hoq0 hty_b2 hG45 (by decide)
         replace hoq1 := own_ty_upd hoq1 hty_b2 hG45 (by decide)
         replace hoq2 := own_ty_upd hoq2 hty_b2 hG45 (by decide)
         replace hKi := OwnsK.tyupd hKi hty_b2 hG45 (by decide)
         replace hoq3 := own_ty_upd hoq3 hty_b2 hG45 (by decide)
         refine l_nil (r_ret_ (vs := [.agg _]) rfl Tryz.func12 rfl (.nil _) ⟨⟨_, _, rfl, run_loadVarA Tryz.isAgg52 Tryz.sizeOf52 (hb2.cells' (cs' := [_, _, _, _]) 0 4 rfl) rfl⟩, trivial⟩ ?_)
         have hz3 : k3 = ul.length := by omega
         rw [hz3, List.take_length] at hX3
         have hlk : X2.length = kl.length := by rw [hl2, hz2]
         subst hX0 hX1 hX3
         exact ⟨oa0, oc0, oa1, oc1, oa2, oc2, X2, oa3, oc3, rfl, ⟨Row.of_owns hoq0, Row.of_owns hoq1, Row.of_owns hoq2, hKi.rows, Row.of_owns hoq3⟩, hX2, Ext.of_below hB⟩
end Go.Proofs.YtbikicakdkbcgacGreat
