/- Contracts. -/
import Derived.Test.YtbikicakdkbcgacGreatM1
import Derived.Test.YtbikicakdkbcgacGreatGvPut
import Derived.Test.YtbikicakdkbcgacGreatGvTy3
set_option linter.unusedVariables false
set_option linter.unusedSimpArgs false
namespace Go.Proofs.YtbikicakdkbcgacGreat
open Go Go.RowKit Go.Gv Go.Fl

def OwnsS (w : World) (B el : Nat) (l : List SN) : Prop := ∀ p ∈ l, w.ownsRow B el 1 (.slice p.a p.xs.length p.c) p.xs.length (p.xs.map vint)
theorem OwnsS.ext {w w' : World} {B el : Nat} {l : List SN} (h : OwnsS w B el l) (hg : Ext w w') : OwnsS w' B el l := fun s hs => own_ext (h s hs) hg
theorem OwnsS.rows {w : World} {B el : Nat} {l : List SN} (h : OwnsS w B el l) : RowsS w l := fun s hs => Row.of_owns (h s hs)
theorem OwnsS.nil (w : World) (B el : Nat) : OwnsS w B el [] := fun _ h => by simp at h
theorem OwnsS.snoc {w : World} {B el : Nat} {l : List SN} {p : SN} (h : OwnsS w B el l) (hs : w.ownsRow B el 1 (.slice p.a p.xs.length p.c) p.xs.length (p.xs.map vint)) : OwnsS w B el (l ++ [p]) := fun x hx => by
  rcases List.mem_append.1 hx with h1 | h1
  · exact h x h1
  · obtain rfl : x = p := by simpa using h1
    exact hs
theorem OwnsS.kept {w w' : World} {B el base' e' size' n' : Nat} {l : List SN} {v' : Value} {xs' : List Value} (h : OwnsS w B el l) (h' : w.ownsRow base' e' size' v' n' xs') (hne : el ≠ e') (hG : w.grownBy w' v'.ownBlock) : OwnsS w' B el l := fun s hs => own_kept (h s hs) h' hne hG
theorem OwnsS.tyupd {w w' : World} {B el b T : Nat} {l : List SN} (h : OwnsS w B el l) (ht : TyAt w b T) (hG : w.grownBy w' (some b)) (hne : el ≠ T) : OwnsS w' B el l := fun s hs => own_ty_upd (h s hs) ht hG hne
theorem mheard_ret (ka : Option Addr) (kc : Nat) (co : List Sg) (er : Int) (sa : Option Addr) (sc : Nat) (se : List Int) (ja : Option Addr) (jc : Nat) (sl : List SN) (ra : Option Addr) (rc : Nat) (rl : List RC) (x : SN) (bf : Int) (w : World) (hse : Row w sa se.length sc 1 (se.map vint)) (hsn : se.length ≤ 2097152) (hst : 0 ≤ x.st ∧ x.st ≤ (se.length : Int) - 1) : Ret Tryz.prog 89 [.agg ⟨[.slice ka co.length kc, vint er, .slice sa se.length sc, .slice ja sl.length jc, .slice ra rl.length rc]⟩, .agg ⟨[vint x.h, vint x.st, .slice x.a x.xs.length x.c]⟩, vint bf] w (fun v w' => v = .bool (heardB se x.pn bf) ∧ Ext w w') := by
 have hB := Below.refl w.heap.size w
 have hsz : w.heap.size ≤ w.heap.size := Nat.le_refl _
 refine ret_of_runs (args := [_, _, _]) Tryz.func89 rfl (Nat.le_of_ble_eq_true rfl) (by kernel_rfl) (r_seq (r_region' (l_o (o_box rfl rfl rfl ?_))))
 intro b1 w1 hzl1 hzr1 _ hb1 hE1
 have hbs_b1 : w.heap.size ≤ b1 := Nat.le_trans hsz hzl1
 replace hB := below_ext hB hE1 hsz
 replace hsz := Nat.le_trans hsz hE1.size
 refine l_o (o_box rfl rfl rfl ?_)
 intro b2 w2 hzl2 hzr2 _ hb2 hE2
 have hbs_b2 : w.heap.size ≤ b2 := Nat.le_trans hsz hzl2
 replace hB := below_ext hB hE2 hsz
 replace hb1 := hb1.ext hE2
 replace hsz := Nat.le_trans hsz hE2.size
 refine l_q (qab rfl rfl) (l_nil (r_seq (r_region' (l_q (q_fieldAddr (o' := 2) rfl fld43_2 rfl) (l_q (q_load Tryz.isAgg31 rfl ((hb1.has (o := 2) rfl)) rfl) (l_q (q_fieldAddr (o' := 1) rfl fld55_1 rfl) (l_q (q_load Tryz.isAgg3 rfl ((hb2.has (o := 1) rfl)) rfl) ?_)))))))
 obtain ⟨b3, o3, ha3, hh3⟩ := (hse.below hB).at1 x.st.toNat ((se).getD x.st.toNat 0) (getD_some (by omega))
 refine l_q (q_indexAddr1 Tryz.underlying31 Tryz.sizeOf3 rfl ha3 rfl (by omega) rfl) (l_q (q_load Tryz.isAgg3 rfl (hh3) rfl) (l_q (qai rfl rfl) (l_nil (r_forget [(2, .int _ _), (4, .pointer _), (7, .int _ _)] ⟨rfl, rfl, rfl, trivial⟩ (fun e4 => (r_seq (r_region' (l_q (qmi rfl rfl) (l_q (q_neq rfl rfl rfl) (l_q (qmb rfl rfl) (l_part 16 rfl (fun hc5 => ?_) (fun hc5 => ?_))))))))))))
 ·
  replace hc5 := df (nt hc5)
  have g16 := hc5
  refine l_q (qmi rfl rfl) (l_q (q_fieldAddr (o' := 0) rfl fld55_0 rfl) (l_q (q_load Tryz.isAgg3 rfl ((hb2.has (o := 0) rfl)) rfl) (l_q (q_leq rfl rfl rfl) (l_q (q_pick_t (v := .bool _) rfl rfl rfl) (l_q (qmb rfl rfl) (l_part 22 rfl (fun hc6 => ?_) (fun hc6 => ?_)))))))
  ·
   replace hc6 := dt hc6
   have g22 := hc6
   refine l_q (q_fieldAddr (o' := 0) rfl fld55_0 rfl) (l_q (q_load Tryz.isAgg3 rfl ((hb2.has (o := 0) rfl)) rfl) (l_q (qmi rfl rfl) (l_q (q_lss rfl rfl rfl) (l_q (q_pick_t (v := .bool _) rfl rfl rfl) (l_q (qab rfl rfl) (l_nil (r_forget [(6, .bool _)] ⟨rfl, trivial⟩ (fun e7 => (r_ret_ (vs := [.bool _]) rfl Tryz.func89 rfl (.nil _) ⟨rfl, trivial⟩ ?_)))))))))
   exact ⟨vbool_eq (by unfold heardB SN.pn; dsimp only; rw [decide_eq_false g16, decide_eq_true g22]; rfl), Ext.of_below hB⟩
  ·
   replace hc6 := dle hc6
   have g22 := hc6
   refine l_q (q_skip rfl) (l_q (q_skip rfl) (l_q (q_skip rfl) (l_q (q_skip rfl) (l_q (q_pick_f (v := .bool _) rfl rfl rfl) (l_q (qab rfl rfl) (l_nil (r_forget [(6, .bool _)] ⟨rfl, trivial⟩ (fun e8 => (r_ret_ (vs := [.bool _]) rfl Tryz.func89 rfl (.nil _) ⟨rfl, trivial⟩ ?_)))))))))
   exact ⟨vbool_eq (by unfold heardB SN.pn; dsimp only; rw [decide_eq_false g16, decide_eq_false (by omega)]; rfl), Ext.of_below hB⟩
 ·
  replace hc5 := dt (nf hc5)
  have g16 := hc5
  refine l_q (q_skip rfl) (l_q (q_skip rfl) (l_q (q_skip rfl) (l_q (q_skip rfl) (l_q (q_pick_f (v := .bool _) rfl rfl rfl) (l_q (qmb rfl rfl) (l_q (q_skip rfl) (l_q (q_skip rfl) (l_q (q_skip rfl) (l_q (q_skip rfl) (l_q (q_pick_f (v := .bool _) rfl rfl rfl) (l_q (qab rfl rfl) (l_nil (r_forget [(6, .bool _)] ⟨rfl, trivial⟩ (fun e9 => (r_ret_ (vs := [.bool _]) rfl Tryz.func89 rfl (.nil _) ⟨rfl, trivial⟩ ?_)))))))))))))))
  exact ⟨vbool_eq (by unfold heardB SN.pn; dsimp only; rw [decide_eq_true (show se.getD x.st.toNat 0 = -1 by omega)]; rfl), Ext.of_below hB⟩
theorem mparts_ret (ka : Option Addr) (kc : Nat) (co : List Sg) (er : Int) (sa : Option Addr) (sc : Nat) (se : List Int) (ja : Option Addr) (jc : Nat) (sl : List SN) (ra : Option Addr) (rc : Nat) (rl : List RC) (bf : Int) (w : World) : Ret Tryz.prog 50 [.agg ⟨[.slice ka co.length kc, vint er, .slice sa se.length sc, .slice ja sl.length jc, .slice ra rl.length rc]⟩, vint bf] w (fun v w' => ∃ b b2, v = .func (.func 88) ⟨[]⟩ ⟨[ptr b 0, ptr b2 0]⟩ ∧ (w.heap.size ≤ b ∧ w.heap.size ≤ b2) ∧ Blk w' b [.slice ka co.length kc, vint er, .slice sa se.length sc, .slice ja sl.length jc, .slice ra rl.length rc] ∧ Blk w' b2 [vint bf] ∧ TyAt w' b 43 ∧ TyAt w' b2 3 ∧ Ext w w') := by
 have hB := Below.refl w.heap.size w
 have hsz : w.heap.size ≤ w.heap.size := Nat.le_refl _
 refine ret_of_runs (args := [_, _]) Tryz.func50 rfl (Nat.le_of_ble_eq_true rfl) (by kernel_rfl) (r_seq (r_region' (l_o (o_boxt rfl rfl rfl ?_))))
 intro b1 w1 hzl1 hzr1 _ hb1 hty_b1 hE1
 have hbs_b1 : w.heap.size ≤ b1 := Nat.le_trans hsz hzl1
 replace hB := below_ext hB hE1 hsz
 replace hsz := Nat.le_trans hsz hE1.size
 refine l_o (o_boxt rfl rfl rfl ?_)
 intro b2 w2 hzl2 hzr2 _ hb2 hty_b2 hE2
 have hbs_b2 : w.heap.size ≤ b2 := Nat.le_trans hsz hzl2
 replace hB := below_ext hB hE2 hsz
 replace hb1 := hb1.ext hE2
 replace hty_b1 := hty_b1.ext hE2
 replace hsz := Nat.le_trans hsz hE2.size
 refine l_q (q_assign (v := .nilFunc) rfl rfl) (l_nil (r_seq (r_region' (l_q (q_makeFunc (v := .func _ ⟨[]⟩ ⟨[_, _]⟩) rfl rfl) (l_q (q_assign (v := .func _ _ _) rfl rfl) (l_nil (r_ret_ (vs := [.func _ _ _]) rfl Tryz.func50 rfl (.nil _) ⟨rfl, trivial⟩ ?_)))))))
 exact ⟨_, _, rfl, ⟨hbs_b1, hbs_b2⟩, hb1, hb2, hty_b1, hty_b2, Ext.of_below hB⟩
theorem code6_ret (a : Option Addr) (cc : Nat) (c : List Sg) (w : World) (hrow : Row w a c.length cc 1 (c.map vstr)) (hcn : c.length ≤ 2097152) : Ret Tryz.prog 10 [.agg ⟨[.slice a c.length cc]⟩] w (fun v w' => ∃ ca cc, v = .agg ⟨[.slice ca (c).length cc]⟩ ∧ w'.ownsRow w.heap.size 9 1 (.slice ca (c).length cc) (c).length ((c).map vstr) ∧ Ext w w') := by
 have hB := Below.refl w.heap.size w
 have hsz : w.heap.size ≤ w.heap.size := Nat.le_refl _
 refine ret_of_runs (args := [_]) Tryz.func10 rfl (Nat.le_of_ble_eq_true rfl) (by kernel_rfl) (r_seq (r_region' (l_o (o_box rfl rfl rfl ?_))))
 intro b1 w1 hzl1 hzr1 _ hb1 hE1
 have hbs_b1 : w.heap.size ≤ b1 := Nat.le_trans hsz hzl1
 replace hB := below_ext hB hE1 hsz
 replace hsz := Nat.le_trans hsz hE1.size
 refine l_o (o_alloc Tryz.zeroValue38 rfl rfl ?_)
 intro b2 w2 hzl2 hzr2 _ hb2 hE2
 have hbs_b2 : w.heap.size ≤ b2 := Nat.le_trans hsz hzl2
 replace hB := below_ext hB hE2 hsz
 replace hb1 := hb1.ext hE2
 replace hsz := Nat.le_trans hsz hE2.size
 refine l_nil (r_seq (r_region' (l_o (o_buildSlice (el := 9) (cs := []) Tryz.underlying28 el9 (by decide) (by kernel_rfl) rfl (by decide) rfl ?_))))
 intro b3 w3 hzl3 hzr3 _ hb3 hE3 ho3
 have hbs_b3 : w.heap.size ≤ b3 := Nat.le_trans hsz hzl3
 replace hB := below_ext hB hE3 hsz
 replace hb1 := hb1.ext hE3
 replace hb2 := hb2.ext hE3
 replace hsz := Nat.le_trans hsz hE3.size
 refine l_q (q_fieldAddr (o' := 0) rfl fld30_0 rfl) (l_q (q_load Tryz.isAgg28 rfl ((hb1.has (o := 0) rfl)) rfl) (l_o (o_append_map (f := vstr) ([]) (c) Tryz.underlying28 el9 rfl rfl ho3 rfl (hrow.below hB) (fun _ => rfl) (by (try simp only [List.length_append, List.length_cons, List.length_nil, List.length_take, List.length_drop, List.length_replicate]); omega) (by omega) rfl ?_)))
 intro a4 c4 w4 hz4 ho4 hG4
 replace hB := below_own hB hG4 ho3 (by omega) hsz
 replace hsz := Nat.le_trans hsz hG4.size
 replace hb2 := hb2.step hG4 (own_ne ho3 (by omega))
 refine l_q (q_build (v := .agg ⟨[.slice a4 (([] ++ c).length) c4]⟩) (fun w => by kernel_rfl) rfl) (l_o (o_store (vs := [.slice a4 (([] ++ c).length) c4]) (cs' := [.slice a4 (([] ++ c).length) c4]) Tryz.sizeOf38 rfl rfl rfl rfl hb2 (Nat.le_of_ble_eq_true rfl) rfl rfl ?_))
 intro w5 hz5 hb2 hG5
 replace hB := below_upd hB hG5 hsz (by omega)
 replace hsz : w.heap.size ≤ w5.heap.size := by rw [hz5]; exact hsz
 replace ho4 := own_updlt ho4 hG5 (by omega)
 refine l_nil (r_ret_ (vs := [.agg _]) rfl Tryz.func10 rfl (.nil _) ⟨⟨_, _, rfl, run_loadVarA Tryz.isAgg38 Tryz.sizeOf38 (hb2.cells' (cs' := [_]) 0 1 rfl) rfl⟩, trivial⟩ ?_)
 exact ⟨_, _, rfl, own_mono ho4 (show w.heap.size ≤ _ by omega), Ext.of_below hB⟩
end Go.Proofs.YtbikicakdkbcgacGreat
