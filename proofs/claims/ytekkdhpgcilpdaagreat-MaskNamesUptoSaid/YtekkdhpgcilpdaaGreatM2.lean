/- Contracts. -/
import Derived.Test.YtekkdhpgcilpdaaGreatM1
import Derived.Test.YtekkdhpgcilpdaaGreatGvPut
import Derived.Test.YtekkdhpgcilpdaaGreatGvTy3
set_option linter.unusedVariables false
set_option linter.unusedSimpArgs false
namespace Go.Proofs.YtekkdhpgcilpdaaGreat
open Go Go.RowKit Go.Gv Go.Fl

theorem sf_len {s : Sg} (h : signsFault s [] = 0) : s.length ≤ 40 := by
  unfold signsFault at h
  split at h
  · cases h
  · omega
theorem send_ok {c : List Sg} {t : List Int} (hf : fault c = 0) (h5 : t.length ≤ 5) (ht : isText c t = true) : (send c t).1 = signs c t := by
  unfold send
  rw [if_neg (fun h => h hf), if_neg (by omega), if_pos ht]
theorem send_len {c : List Sg} {t : List Int} (hf : fault c = 0) (h5 : t.length ≤ 5) (ht : isText c t = true) : (signs c t).length ≤ 40 := by
  have := signs_len hf ht
  omega
theorem sf_pair {c : List Sg} {t : List Int} {s : Sg} (hf : fault c = 0) (h5 : t.length ≤ 5) (ht : isText c t = true) (hs : signsFault s [] = 0) : signsFault (signs c t) s = 0 :=
  sf_mk (send_len hf h5 ht) (sf_len hs) (signs_signs hf ht) (by
    unfold signsFault at hs
    split at hs
    · cases hs
    · split at hs
      · rename_i h; rw [Bool.and_eq_true] at h; exact h.1
      · cases hs)
theorem reads_yes {co : List Sg} {er : Int} {se : List Int} {sl : List SN} {rl : List RC} {t : List Int} {s : Sg} (hf : fault co = 0) (h5 : t.length ≤ 5) (ht : isText co t = true) (hs : signsFault s [] = 0) (her : er ≤ 3) (h : (errs (signs co t) s).2 = 0) : decide ((errs (signs co t) s).1 ≤ er) = readsB (lg co er se sl rl) t s := by
  have h1 := sf_pair hf h5 ht hs
  unfold readsB lg
  unfold errs at h ⊢
  rw [if_neg (fun h2 => h2 h1)] at h ⊢
  split at h
  · cases h
  · rename_i h2
    rw [if_neg h2]
theorem reads_no {co : List Sg} {er : Int} {se : List Int} {sl : List SN} {rl : List RC} {t : List Int} {s : Sg} (hf : fault co = 0) (h5 : t.length ≤ 5) (ht : isText co t = true) (hs : signsFault s [] = 0) (her : er ≤ 3) (h : ¬ (errs (signs co t) s).2 = 0) : readsB (lg co er se sl rl) t s = false := by
  have h1 := sf_pair hf h5 ht hs
  unfold readsB lg
  unfold errs at h
  rw [if_neg (fun h2 => h2 h1)] at h
  split at h
  · exact decide_eq_false (by dsimp only; omega)
  · exact absurd rfl h
def OwnsS (w : World) (B el : Nat) (l : List SN) : Prop := ∀ p ∈ l, w.ownsRow B el 1 (.slice p.a p.xs.length p.c) p.xs.length (p.xs.map vint)
theorem OwnsS.ext {w w' : World} {B el : Nat} {l : List SN} (h : OwnsS w B el l) (hg : Ext w w') : OwnsS w' B el l := fun s hs => own_ext (h s hs) hg
theorem OwnsS.rows {w : World} {B el : Nat} {l : List SN} (h : OwnsS w B el l) : RowsS w l := fun s hs => Row.of_owns (h s hs)
theorem OwnsS.nil (w : World) (B el : Nat) : OwnsS w B el [] := fun _ h => by simp at h
theorem OwnsS.snoc {w : World} {B el : Nat} {l : List SN} {p : SN} (h : OwnsS w B el l) (hs : w.ownsRow B el 1 (.slice p.a p.xs.length p.c) p.xs.length (p.xs.map vint)) : OwnsS w B el (l ++ [p]) := fun x hx => by
  rcases List.mem_append.1 hx with h1 | h1
  · exact h x h1
  · obtain rfl : x = p := by simpa using h1
    exact hs
theorem OwnsS.kept {w w' : World} {B el base' e' size' n' : Nat} {l : List SN} {v' : Value} {xs' : List Value} (h : OwnsS w B el l) (h' : w.ownsRow base' e' size' v' n' xs') (hne : el ≠ e') (hG : w.grownBy w' v'.ownBlock) : OwnsS w' B el l := fun s hs => own_kept (h s hs) h' hne hG
theorem OwnsS.tyupd {w w' : World} {B el b T : Nat} {l : List SN} (h : OwnsS w B el l) (ht : TyAt w b T) (hG : w.grownBy w' (some b)) (hne : el ≠ T) : OwnsS w' B el l := fun s hs => own_ty_upd (h s hs) ht hG hne
theorem el76 : Elem Tryz.prog 76 (.agg ⟨[vint 0, vint 0, .slice none 0 0]⟩) 3 40 := elem_of (by kernel_rfl) rfl (by decide)
theorem el75 : Elem Tryz.prog 75 (.agg ⟨[vint 0, vint 0, vstr []]⟩) 3 32 := elem_of (by kernel_rfl) rfl (by decide)
theorem mreads_ret (ka : Option Addr) (kc : Nat) (co : List Sg) (er : Int) (sa : Option Addr) (sc : Nat) (se : List Int) (ja : Option Addr) (jc : Nat) (sl : List SN) (ra : Option Addr) (rc : Nat) (rl : List RC) (xa : Option Addr) (xc : Nat) (xs : List Int) (s : Sg) (w : World) (hlg : LgAt w ka kc co sa sc se ja jc sl ra rc rl) (hbg : LgBig co er se sl rl) (hx : Row w xa xs.length xc 1 (xs.map vint)) (hxn : xs.length ≤ 2097152) (hf : fault co = 0) (her : er ≤ 3) (hx5 : xs.length ≤ 5) (htx : isText co xs = true) (hs0 : signsFault s [] = 0) : Ret Tryz.prog 69 [.agg ⟨[.slice ka co.length kc, vint er, .slice sa se.length sc, .slice ja sl.length jc, .slice ra rl.length rc]⟩, .slice xa xs.length xc, vstr s] w (fun v w' => v = .bool (readsB (lg co er se sl rl) xs s) ∧ Ext w w') := by
 obtain ⟨⟨hcn, hcl⟩, hen, hsn, ⟨hjn, hjl⟩, hrn, hrl⟩ := id hbg
 have hs40 := sf_len hs0
 have hB := Below.refl w.heap.size w
 have hsz : w.heap.size ≤ w.heap.size := Nat.le_refl _
 refine ret_of_runs (args := [_, _, _]) Tryz.func69 rfl (Nat.le_of_ble_eq_true rfl) (by kernel_rfl) (r_seq (r_region' (l_o (o_box rfl rfl rfl ?_))))
 intro b1 w1 hzl1 hzr1 _ hb1 hE1
 have hbs_b1 : w.heap.size ≤ b1 := Nat.le_trans hsz hzl1
 replace hB := below_ext hB hE1 hsz
 replace hsz := Nat.le_trans hsz hE1.size
 refine l_q (qab rfl rfl) (l_nil (r_seq (r_region' (l_q (q_fieldAddr (o' := 0) rfl fld38_0 rfl) (l_q (q_load_agg (n := 1) Tryz.isAgg34 Tryz.sizeOf34 rfl ((hb1.cells' (cs' := [_]) 0 1 rfl)) rfl rfl) (l_q (qms rfl rfl) (l_o (o_call Tryz.call85 rfl (send_ret _ _ co _ _ xs _ (hlg.rco.below hB) (by omega) (hx.below hB) (by omega) hcl) rfl ?_))))))))
 rintro _ w2 ⟨rfl, hE2⟩
 replace hB := below_ext hB hE2 hsz
 replace hb1 := hb1.ext hE2
 replace hsz := Nat.le_trans hsz hE2.size
 have hsd := send_ok hf hx5 htx
 have hsl := send_len hf hx5 htx
 refine l_q (q_move (v := .tuple _) rfl rfl) (l_q (q_extract (vs := [_, _]) (v := .string _) rfl rfl rfl) (l_q (q_extract (vs := [_, _]) (v := .int _ _) rfl rfl rfl) (l_q (q_assign (v := .string _) rfl rfl) (l_q (qai rfl rfl) (l_nil (r_forget [(2, .string _), (3, .pointer _), (7, .string _)] ⟨rfl, rfl, rfl, trivial⟩ (fun e3 => (r_seq (r_region' (l_q (q_move (v := .string _) rfl rfl) (l_q (q_move (v := .string _) rfl rfl) (l_o (o_call Tryz.call87 rfl (errors_ret (send co xs).1 s _ (by rw [hsd]; omega) (by omega)) rfl ?_)))))))))))))
 rintro _ w4 ⟨rfl, hE4⟩
 replace hB := below_ext hB hE4 hsz
 replace hb1 := hb1.ext hE4
 replace hsz := Nat.le_trans hsz hE4.size
 refine l_q (q_move (v := .tuple _) rfl rfl) (l_q (q_extract (vs := [_, _]) (v := .int _ _) rfl rfl rfl) (l_q (q_extract (vs := [_, _]) (v := .int _ _) rfl rfl rfl) (l_q (qai rfl rfl) (l_q (qai rfl rfl) (l_nil (r_seq (r_region' (l_q (qmi rfl rfl) (l_q (q_eql rfl rfl rfl) (l_q (qmb rfl rfl) (l_part 26 rfl (fun hc5 => ?_) (fun hc5 => ?_))))))))))))
 ·
  replace hc5 := dt hc5
  have g26 := hc5
  refine l_q (qmi rfl rfl) (l_q (q_fieldAddr (o' := 1) rfl fld38_1 rfl) (l_q (q_load Tryz.isAgg3 rfl ((hb1.has (o := 1) rfl)) rfl) (l_q (q_leq rfl rfl rfl) (l_q (q_pick_t (v := .bool _) rfl rfl rfl) (l_q (qab rfl rfl) (l_nil (r_forget [(6, .bool _)] ⟨rfl, trivial⟩ (fun e6 => (r_ret_ (vs := [.bool _]) rfl Tryz.func69 rfl (.nil _) ⟨rfl, trivial⟩ ?_)))))))))
  exact ⟨vbool_eq (by rw [hsd] at *; exact reads_yes hf hx5 htx hs0 her g26), Ext.of_below hB⟩
 ·
  replace hc5 := df hc5
  have g26 := hc5
  refine l_q (q_skip rfl) (l_q (q_skip rfl) (l_q (q_skip rfl) (l_q (q_skip rfl) (l_q (q_pick_f (v := .bool _) rfl rfl rfl) (l_q (qab rfl rfl) (l_nil (r_forget [(6, .bool _)] ⟨rfl, trivial⟩ (fun e7 => (r_ret_ (vs := [.bool _]) rfl Tryz.func69 rfl (.nil _) ⟨rfl, trivial⟩ ?_)))))))))
  exact ⟨vbool_eq (by rw [hsd] at *; exact (reads_no hf hx5 htx hs0 her g26).symm), Ext.of_below hB⟩
theorem mheard_ret (ka : Option Addr) (kc : Nat) (co : List Sg) (er : Int) (sa : Option Addr) (sc : Nat) (se : List Int) (ja : Option Addr) (jc : Nat) (sl : List SN) (ra : Option Addr) (rc : Nat) (rl : List RC) (x : SN) (bf : Int) (w : World) (hse : Row w sa se.length sc 1 (se.map vint)) (hsn : se.length ≤ 2097152) (hst : 0 ≤ x.st ∧ x.st ≤ (se.length : Int) - 1) : Ret Tryz.prog 129 [.agg ⟨[.slice ka co.length kc, vint er, .slice sa se.length sc, .slice ja sl.length jc, .slice ra rl.length rc]⟩, .agg ⟨[vint x.h, vint x.st, .slice x.a x.xs.length x.c]⟩, vint bf] w (fun v w' => v = .bool (heardB se x.pn bf) ∧ Ext w w') := by
 have hB := Below.refl w.heap.size w
 have hsz : w.heap.size ≤ w.heap.size := Nat.le_refl _
 refine ret_of_runs (args := [_, _, _]) Tryz.func129 rfl (Nat.le_of_ble_eq_true rfl) (by kernel_rfl) (r_seq (r_region' (l_o (o_box rfl rfl rfl ?_))))
 intro b1 w1 hzl1 hzr1 _ hb1 hE1
 have hbs_b1 : w.heap.size ≤ b1 := Nat.le_trans hsz hzl1
 replace hB := below_ext hB hE1 hsz
 replace hsz := Nat.le_trans hsz hE1.size
 refine l_o (o_box rfl rfl rfl ?_)
 intro b2 w2 hzl2 hzr2 _ hb2 hE2
 have hbs_b2 : w.heap.size ≤ b2 := Nat.le_trans hsz hzl2
 replace hB := below_ext hB hE2 hsz
 replace hb1 := hb1.ext hE2
 replace hsz := Nat.le_trans hsz hE2.size
 refine l_q (qab rfl rfl) (l_nil (r_seq (r_region' (l_q (q_fieldAddr (o' := 2) rfl fld38_2 rfl) (l_q (q_load Tryz.isAgg25 rfl ((hb1.has (o := 2) rfl)) rfl) (l_q (q_fieldAddr (o' := 1) rfl fld76_1 rfl) (l_q (q_load Tryz.isAgg3 rfl ((hb2.has (o := 1) rfl)) rfl) ?_)))))))
 obtain ⟨b3, o3, ha3, hh3⟩ := (hse.below hB).at1 x.st.toNat ((se).getD x.st.toNat 0) (getD_some (by omega))
 refine l_q (q_indexAddr1 Tryz.underlying25 Tryz.sizeOf3 rfl ha3 rfl (by omega) rfl) (l_q (q_load Tryz.isAgg3 rfl (hh3) rfl) (l_q (qai rfl rfl) (l_nil (r_forget [(2, .int _ _), (4, .pointer _), (7, .int _ _)] ⟨rfl, rfl, rfl, trivial⟩ (fun e4 => (r_seq (r_region' (l_q (qmi rfl rfl) (l_q (q_neq rfl rfl rfl) (l_q (qmb rfl rfl) (l_part 16 rfl (fun hc5 => ?_) (fun hc5 => ?_))))))))))))
 ·
  replace hc5 := df (nt hc5)
  have g16 := hc5
  refine l_q (qmi rfl rfl) (l_q (q_fieldAddr (o' := 0) rfl fld76_0 rfl) (l_q (q_load Tryz.isAgg3 rfl ((hb2.has (o := 0) rfl)) rfl) (l_q (q_leq rfl rfl rfl) (l_q (q_pick_t (v := .bool _) rfl rfl rfl) (l_q (qmb rfl rfl) (l_part 22 rfl (fun hc6 => ?_) (fun hc6 => ?_)))))))
  ·
   replace hc6 := dt hc6
   have g22 := hc6
   refine l_q (q_fieldAddr (o' := 0) rfl fld76_0 rfl) (l_q (q_load Tryz.isAgg3 rfl ((hb2.has (o := 0) rfl)) rfl) (l_q (qmi rfl rfl) (l_q (q_lss rfl rfl rfl) (l_q (q_pick_t (v := .bool _) rfl rfl rfl) (l_q (qab rfl rfl) (l_nil (r_forget [(6, .bool _)] ⟨rfl, trivial⟩ (fun e7 => (r_ret_ (vs := [.bool _]) rfl Tryz.func129 rfl (.nil _) ⟨rfl, trivial⟩ ?_)))))))))
   exact ⟨vbool_eq (by unfold heardB SN.pn; dsimp only; rw [decide_eq_false g16, decide_eq_true g22]; rfl), Ext.of_below hB⟩
  ·
   replace hc6 := dle hc6
   have g22 := hc6
   refine l_q (q_skip rfl) (l_q (q_skip rfl) (l_q (q_skip rfl) (l_q (q_skip rfl) (l_q (q_pick_f (v := .bool _) rfl rfl rfl) (l_q (qab rfl rfl) (l_nil (r_forget [(6, .bool _)] ⟨rfl, trivial⟩ (fun e8 => (r_ret_ (vs := [.bool _]) rfl Tryz.func129 rfl (.nil _) ⟨rfl, trivial⟩ ?_)))))))))
   exact ⟨vbool_eq (by unfold heardB SN.pn; dsimp only; rw [decide_eq_false g16, decide_eq_false (by omega)]; rfl), Ext.of_below hB⟩
 ·
  replace hc5 := dt (nf hc5)
  have g16 := hc5
  refine l_q (q_skip rfl) (l_q (q_skip rfl) (l_q (q_skip rfl) (l_q (q_skip rfl) (l_q (q_pick_f (v := .bool _) rfl rfl rfl) (l_q (qmb rfl rfl) (l_q (q_skip rfl) (l_q (q_skip rfl) (l_q (q_skip rfl) (l_q (q_skip rfl) (l_q (q_pick_f (v := .bool _) rfl rfl rfl) (l_q (qab rfl rfl) (l_nil (r_forget [(6, .bool _)] ⟨rfl, trivial⟩ (fun e9 => (r_ret_ (vs := [.bool _]) rfl Tryz.func129 rfl (.nil _) ⟨rfl, trivial⟩ ?_)))))))))))))))
  exact ⟨vbool_eq (by unfold heardB SN.pn; dsimp only; rw [decide_eq_true (show se.getD x.st.toNat 0 = -1 by omega)]; rfl), Ext.of_below hB⟩
theorem mparts_ret (ka : Option Addr) (kc : Nat) (co : List Sg) (er : Int) (sa : Option Addr) (sc : Nat) (se : List Int) (ja : Option Addr) (jc : Nat) (sl : List SN) (ra : Option Addr) (rc : Nat) (rl : List RC) (bf : Int) (w : World) : Ret Tryz.prog 99 [.agg ⟨[.slice ka co.length kc, vint er, .slice sa se.length sc, .slice ja sl.length jc, .slice ra rl.length rc]⟩, vint bf] w (fun v w' => ∃ b b2, v = .func (.func 128) ⟨[]⟩ ⟨[ptr b 0, ptr b2 0]⟩ ∧ (w.heap.size ≤ b ∧ w.heap.size ≤ b2) ∧ Blk w' b [.slice ka co.length kc, vint er, .slice sa se.length sc, .slice ja sl.length jc, .slice ra rl.length rc] ∧ Blk w' b2 [vint bf] ∧ TyAt w' b 38 ∧ TyAt w' b2 3 ∧ Ext w w') := by
 have hB := Below.refl w.heap.size w
 have hsz : w.heap.size ≤ w.heap.size := Nat.le_refl _
 refine ret_of_runs (args := [_, _]) Tryz.func99 rfl (Nat.le_of_ble_eq_true rfl) (by kernel_rfl) (r_seq (r_region' (l_o (o_boxt rfl rfl rfl ?_))))
 intro b1 w1 hzl1 hzr1 _ hb1 hty_b1 hE1
 have hbs_b1 : w.heap.size ≤ b1 := Nat.le_trans hsz hzl1
 replace hB := below_ext hB hE1 hsz
 replace hsz := Nat.le_trans hsz hE1.size
 refine l_o (o_boxt rfl rfl rfl ?_)
 intro b2 w2 hzl2 hzr2 _ hb2 hty_b2 hE2
 have hbs_b2 : w.heap.size ≤ b2 := Nat.le_trans hsz hzl2
 replace hB := below_ext hB hE2 hsz
 replace hb1 := hb1.ext hE2
 replace hty_b1 := hty_b1.ext hE2
 replace hsz := Nat.le_trans hsz hE2.size
 refine l_q (q_assign (v := .nilFunc) rfl rfl) (l_nil (r_seq (r_region' (l_q (q_makeFunc (v := .func _ ⟨[]⟩ ⟨[_, _]⟩) rfl rfl) (l_q (q_assign (v := .func _ _ _) rfl rfl) (l_nil (r_ret_ (vs := [.func _ _ _]) rfl Tryz.func99 rfl (.nil _) ⟨rfl, trivial⟩ ?_)))))))
 exact ⟨_, _, rfl, ⟨hbs_b1, hbs_b2⟩, hb1, hb2, hty_b1, hty_b2, Ext.of_below hB⟩
end Go.Proofs.YtekkdhpgcilpdaaGreat
