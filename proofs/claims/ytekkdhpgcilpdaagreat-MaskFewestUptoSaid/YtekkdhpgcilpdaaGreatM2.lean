/- Contracts. -/
import Derived.Test.YtekkdhpgcilpdaaGreatM1
import Derived.Test.YtekkdhpgcilpdaaGreatGvPut
import Derived.Test.YtekkdhpgcilpdaaGreatGvTy3
set_option linter.unusedVariables false
set_option linter.unusedSimpArgs false
namespace Go.Proofs.YtekkdhpgcilpdaaGreat
open Go Go.RowKit Go.Gv Go.Fl

theorem oksn_iff {co : List Sg} {n : Nat} {x : SN} : okSn co n x.pn = true ↔ (0 ≤ x.h ∧ x.h ≤ 23) ∧ (0 ≤ x.st ∧ x.st ≤ (n : Int) - 1) ∧ (1 ≤ x.xs.length ∧ x.xs.length ≤ 5) ∧ isText co x.xs = true := by
  unfold okSn SN.pn hourB inSt
  simp only [Bool.and_eq_true, decide_eq_true_eq, and_assoc]
theorem okrc_iff {n : Nat} {r : RC} : okRC n r = true ↔ (0 ≤ r.h ∧ r.h ≤ 23) ∧ (0 ≤ r.st ∧ r.st ≤ (n : Int) - 1) ∧ signsFault r.s [] = 0 := by
  unfold okRC hourB inSt
  simp only [Bool.and_eq_true, decide_eq_true_eq, and_assoc]
theorem sf_len {s : Sg} (h : signsFault s [] = 0) : s.length ≤ 40 := by
  unfold signsFault at h
  split at h
  · cases h
  · omega
theorem send_ok {c : List Sg} {t : List Int} (hf : fault c = 0) (h5 : t.length ≤ 5) (ht : isText c t = true) : (send c t).1 = signs c t := by
  unfold send
  rw [if_neg (fun h => h hf), if_neg (by omega), if_pos ht]
theorem send_len {c : List Sg} {t : List Int} (hf : fault c = 0) (h5 : t.length ≤ 5) (ht : isText c t = true) : (signs c t).length ≤ 40 := by
  have := signs_len hf ht
  omega
theorem sf_pair {c : List Sg} {t : List Int} {s : Sg} (hf : fault c = 0) (h5 : t.length ≤ 5) (ht : isText c t = true) (hs : signsFault s [] = 0) : signsFault (signs c t) s = 0 :=
  sf_mk (send_len hf h5 ht) (sf_len hs) (signs_signs hf ht) (by
    unfold signsFault at hs
    split at hs
    · cases hs
    · split at hs
      · rename_i h; rw [Bool.and_eq_true] at h; exact h.1
      · cases hs)
theorem reads_yes {co : List Sg} {er : Int} {se : List Int} {sl : List SN} {rl : List RC} {t : List Int} {s : Sg} (hf : fault co = 0) (h5 : t.length ≤ 5) (ht : isText co t = true) (hs : signsFault s [] = 0) (her : er ≤ 3) (h : (errs (signs co t) s).2 = 0) : decide ((errs (signs co t) s).1 ≤ er) = readsB (lg co er se sl rl) t s := by
  have h1 := sf_pair hf h5 ht hs
  unfold readsB lg
  unfold errs at h ⊢
  rw [if_neg (fun h2 => h2 h1)] at h ⊢
  split at h
  · cases h
  · rename_i h2
    rw [if_neg h2]
theorem reads_no {co : List Sg} {er : Int} {se : List Int} {sl : List SN} {rl : List RC} {t : List Int} {s : Sg} (hf : fault co = 0) (h5 : t.length ≤ 5) (ht : isText co t = true) (hs : signsFault s [] = 0) (her : er ≤ 3) (h : ¬ (errs (signs co t) s).2 = 0) : readsB (lg co er se sl rl) t s = false := by
  have h1 := sf_pair hf h5 ht hs
  unfold readsB lg
  unfold errs at h
  rw [if_neg (fun h2 => h2 h1)] at h
  split at h
  · exact decide_eq_false (by dsimp only; omega)
  · exact absurd rfl h
def OwnsS (w : World) (B el : Nat) (l : List SN) : Prop := ∀ p ∈ l, w.ownsRow B el 1 (.slice p.a p.xs.length p.c) p.xs.length (p.xs.map vint)
theorem OwnsS.ext {w w' : World} {B el : Nat} {l : List SN} (h : OwnsS w B el l) (hg : Ext w w') : OwnsS w' B el l := fun s hs => own_ext (h s hs) hg
theorem OwnsS.rows {w : World} {B el : Nat} {l : List SN} (h : OwnsS w B el l) : RowsS w l := fun s hs => Row.of_owns (h s hs)
theorem OwnsS.nil (w : World) (B el : Nat) : OwnsS w B el [] := fun _ h => by simp at h
theorem OwnsS.snoc {w : World} {B el : Nat} {l : List SN} {p : SN} (h : OwnsS w B el l) (hs : w.ownsRow B el 1 (.slice p.a p.xs.length p.c) p.xs.length (p.xs.map vint)) : OwnsS w B el (l ++ [p]) := fun x hx => by
  rcases List.mem_append.1 hx with h1 | h1
  · exact h x h1
  · obtain rfl : x = p := by simpa using h1
    exact hs
theorem OwnsS.kept {w w' : World} {B el base' e' size' n' : Nat} {l : List SN} {v' : Value} {xs' : List Value} (h : OwnsS w B el l) (h' : w.ownsRow base' e' size' v' n' xs') (hne : el ≠ e') (hG : w.grownBy w' v'.ownBlock) : OwnsS w' B el l := fun s hs => own_kept (h s hs) h' hne hG
theorem OwnsS.tyupd {w w' : World} {B el b T : Nat} {l : List SN} (h : OwnsS w B el l) (ht : TyAt w b T) (hG : w.grownBy w' (some b)) (hne : el ≠ T) : OwnsS w' B el l := fun s hs => own_ty_upd (h s hs) ht hG hne
theorem sn_snoc {sl M : List SN} {k : Nat} {a : Option Addr} {c : Nat} (hk : k < sl.length) (h : M.map SN.pn = (sl.take k).map SN.pn) : (M ++ [(⟨(sl.getD k sn00).h, (sl.getD k sn00).st, a, c, (sl.getD k sn00).xs⟩ : SN)]).map SN.pn = (sl.take (k + 1)).map SN.pn := by
  rw [List.map_append, h, List.take_add_one, List.map_append, List.getD_eq_getElem?_getD, List.getElem?_eq_getElem hk]; rfl
theorem rc_take {rl : List RC} {k : Nat} (hk : k < rl.length) : rl.take k ++ [(⟨(rl.getD k rcd0).h, (rl.getD k rcd0).st, (rl.getD k rcd0).s⟩ : RC)] = rl.take (k + 1) := by
  rw [List.take_add_one, List.getD_eq_getElem?_getD, List.getElem?_eq_getElem hk]; rfl

theorem fld29_0 (w : World) (b o : Nat) : (Instr.fieldAt 29 (ptr b o) 0).run Tryz.prog w = .ok (ptr b (o + 0)) w := by
  simp [Instr.fieldAt, run_underlying Tryz.underlying29, fieldPlace, Instr.sureAddr, Tryz.sizeOf24, Addr.add_lit]
theorem fld29_2 (w : World) (b o : Nat) : (Instr.fieldAt 29 (ptr b o) 2).run Tryz.prog w = .ok (ptr b (o + 2)) w := by
  simp [Instr.fieldAt, run_underlying Tryz.underlying29, fieldPlace, Instr.sureAddr, Tryz.sizeOf25, Addr.add_lit]
theorem fld29_3 (w : World) (b o : Nat) : (Instr.fieldAt 29 (ptr b o) 3).run Tryz.prog w = .ok (ptr b (o + 3)) w := by
  simp [Instr.fieldAt, run_underlying Tryz.underlying29, fieldPlace, Instr.sureAddr, Tryz.sizeOf26, Addr.add_lit]
theorem fld29_4 (w : World) (b o : Nat) : (Instr.fieldAt 29 (ptr b o) 4).run Tryz.prog w = .ok (ptr b (o + 4)) w := by
  simp [Instr.fieldAt, run_underlying Tryz.underlying29, fieldPlace, Instr.sureAddr, Tryz.sizeOf27, Addr.add_lit]
theorem fld69_2 (w : World) (b o : Nat) : (Instr.fieldAt 69 (ptr b o) 2).run Tryz.prog w = .ok (ptr b (o + 2)) w := by
  simp [Instr.fieldAt, run_underlying Tryz.underlying69, fieldPlace, Instr.sureAddr, Tryz.sizeOf25, Addr.add_lit]
theorem fld61_2 (w : World) (b o : Nat) : (Instr.fieldAt 61 (ptr b o) 2).run Tryz.prog w = .ok (ptr b (o + 2)) w := by
  simp [Instr.fieldAt, run_underlying Tryz.underlying61, fieldPlace, Instr.sureAddr, Tryz.sizeOf9, Addr.add_lit]
theorem fld29_1 (w : World) (b o : Nat) : (Instr.fieldAt 29 (ptr b o) 1).run Tryz.prog w = .ok (ptr b (o + 1)) w := by
  simp [Instr.fieldAt, run_underlying Tryz.underlying29, fieldPlace, Instr.sureAddr, Tryz.sizeOf3, Addr.add_lit]
theorem fld69_0 (w : World) (b o : Nat) : (Instr.fieldAt 69 (ptr b o) 0).run Tryz.prog w = .ok (ptr b (o + 0)) w := by
  simp [Instr.fieldAt, run_underlying Tryz.underlying69, fieldPlace, Instr.sureAddr, Tryz.sizeOf3, Addr.add_lit]
theorem fld69_1 (w : World) (b o : Nat) : (Instr.fieldAt 69 (ptr b o) 1).run Tryz.prog w = .ok (ptr b (o + 1)) w := by
  simp [Instr.fieldAt, run_underlying Tryz.underlying69, fieldPlace, Instr.sureAddr, Tryz.sizeOf3, Addr.add_lit]
theorem fld61_0 (w : World) (b o : Nat) : (Instr.fieldAt 61 (ptr b o) 0).run Tryz.prog w = .ok (ptr b (o + 0)) w := by
  simp [Instr.fieldAt, run_underlying Tryz.underlying61, fieldPlace, Instr.sureAddr, Tryz.sizeOf3, Addr.add_lit]
theorem fld61_1 (w : World) (b o : Nat) : (Instr.fieldAt 61 (ptr b o) 1).run Tryz.prog w = .ok (ptr b (o + 1)) w := by
  simp [Instr.fieldAt, run_underlying Tryz.underlying61, fieldPlace, Instr.sureAddr, Tryz.sizeOf3, Addr.add_lit]
theorem el76 : Elem Tryz.prog 76 (.agg ⟨[vint 0, vint 0, .slice none 0 0]⟩) 3 40 := elem_of (by kernel_rfl) rfl (by decide)
theorem el75 : Elem Tryz.prog 75 (.agg ⟨[vint 0, vint 0, vstr []]⟩) 3 32 := elem_of (by kernel_rfl) rfl (by decide)
theorem list6_ret (xa : Option Addr) (xc : Nat) (xs : List Int) (w : World) (hx : Row w xa xs.length xc 1 (xs.map vint)) (hxn : xs.length ≤ 2097152) : Ret Tryz.prog 39 [.slice xa xs.length xc] w (fun v w' => ∃ ra0 rc0, v = .slice ra0 (xs).length rc0 ∧ w'.ownsRow w.heap.size 3 1 (.slice ra0 (xs).length rc0) (xs).length ((xs).map vint) ∧ Ext w w') := by
 have hB := Below.refl w.heap.size w
 have hsz : w.heap.size ≤ w.heap.size := Nat.le_refl _
 refine ret_of_runs (args := [_]) Tryz.func39 rfl (Nat.le_of_ble_eq_true rfl) (by kernel_rfl) (r_seq (r_region' (l_q (qas rfl rfl) (l_nil (r_seq (r_region' (l_o (o_buildSlice (el := 3) (cs := []) Tryz.underlying25 el3 (by decide) (by kernel_rfl) rfl (by decide) rfl ?_))))))))
 intro b1 w1 hzl1 hzr1 _ hb1 hE1 ho1
 have hbs_b1 : w.heap.size ≤ b1 := Nat.le_trans hsz hzl1
 replace hB := below_ext hB hE1 hsz
 replace hsz := Nat.le_trans hsz hE1.size
 refine l_q (qms rfl rfl) (l_o (o_append_map (f := vint) ([]) (xs) Tryz.underlying25 el3 rfl rfl ho1 rfl (hx.below hB) (fun _ => rfl) (by (try simp only [List.length_append, List.length_cons, List.length_nil, List.length_take, List.length_drop, List.length_replicate]); omega) (by omega) rfl ?_))
 intro a2 c2 w2 hz2 ho2 hG2
 replace hB := below_own hB hG2 ho1 (by omega) hsz
 replace hsz := Nat.le_trans hsz hG2.size
 refine l_q (qas rfl rfl) (l_nil (r_ret_ (vs := [.slice _ _ _]) rfl Tryz.func39 rfl (.nil _) ⟨rfl, trivial⟩ ?_))
 exact ⟨_, _, rfl, ho2, Ext.of_below hB⟩
theorem thin6_ret (ka : Option Addr) (kc : Nat) (co : List Sg) (er : Int) (sa : Option Addr) (sc : Nat) (se : List Int) (ja : Option Addr) (jc : Nat) (sl : List SN) (ra : Option Addr) (rc : Nat) (rl : List RC) (w : World) (hlg : LgAt w ka kc co sa sc se ja jc sl ra rc rl) (hbg : LgBig co er se sl rl) : Ret Tryz.prog 17 [.agg ⟨[.slice ka co.length kc, vint er, .slice sa se.length sc, .slice ja sl.length jc, .slice ra rl.length rc]⟩] w (fun v w' => ∃ b : Bool, v = .bool b ∧ True ∧ Ext w w') := by
 obtain ⟨⟨hcn, hcl⟩, hen, hsn, ⟨hjn, hjl⟩, hrn, hrl⟩ := id hbg
 have hB := Below.refl w.heap.size w
 have hsz : w.heap.size ≤ w.heap.size := Nat.le_refl _
 refine ret_of_runs (args := [_]) Tryz.func17 rfl (Nat.le_of_ble_eq_true rfl) (by kernel_rfl) (r_seq (r_region' (l_o (o_box rfl rfl rfl ?_))))
 intro b1 w1 hzl1 hzr1 _ hb1 hE1
 have hbs_b1 : w.heap.size ≤ b1 := Nat.le_trans hsz hzl1
 replace hB := below_ext hB hE1 hsz
 replace hsz := Nat.le_trans hsz hE1.size
 refine l_q (qab rfl rfl) (l_nil (r_seq (r_seq (r_region' (l_q (q_fieldAddr (o' := 0) rfl fld29_0 rfl) (l_q (q_load_agg (n := 1) Tryz.isAgg24 Tryz.sizeOf24 rfl ((hb1.cells' (cs' := [_]) 0 1 rfl)) rfl rfl) (l_o (o_call Tryz.call53 rfl (thin_ret _ _ _ _ _ (hlg.rco.below hB) (by omega) (by first | omega | simp)) rfl ?_))))))))
 rintro _ w2 ⟨rfl, hE2⟩
 replace hB := below_ext hB hE2 hsz
 replace hb1 := hb1.ext hE2
 replace hsz := Nat.le_trans hsz hE2.size
 refine l_q (q_not rfl rfl) (l_q (qmb rfl rfl) (l_part 9 rfl (fun hc3 => ?_) (fun hc3 => ?_)))
 ·
  replace hc3 := nt hc3
  refine l_q (q_skip rfl) (l_q (q_skip rfl) (l_q (q_skip rfl) (l_q (q_skip rfl) (l_q (q_pick_t (v := .bool _) rfl rfl rfl) (l_q (qmb rfl rfl) (l_q (q_skip rfl) (l_q (q_skip rfl) (l_q (q_skip rfl) (l_q (q_skip rfl) (l_q (q_pick_t (v := .bool _) rfl rfl rfl) (l_q (qmb rfl rfl) (l_q (q_skip rfl) (l_q (q_skip rfl) (l_q (q_skip rfl) (l_q (q_skip rfl) (l_q (q_pick_t (v := .bool _) rfl rfl rfl) (l_nil (r_forget [(1, .pointer _), (26, .bool _)] ⟨rfl, rfl, trivial⟩ (fun e4 => (r_cond_t rfl (r_seq (r_region' (l_q (qab rfl rfl) (l_nil (r_ret_ (vs := [.bool _]) rfl Tryz.func17 rfl (.nil _) ⟨rfl, trivial⟩ ?_)))))))))))))))))))))))))
  exact ⟨_, rfl, trivial, Ext.of_below hB⟩
 ·
  replace hc3 := nf hc3
  refine l_q (q_fieldAddr (o' := 2) rfl fld29_2 rfl) (l_q (q_load Tryz.isAgg25 rfl ((hb1.has (o := 2) rfl)) rfl) (l_q (q_len rfl Tryz.underlying25 rfl rfl) (l_q (q_gtr rfl rfl rfl) (l_q (q_pick_f (v := .bool _) rfl rfl rfl) (l_q (qmb rfl rfl) (l_part 15 rfl (fun hc5 => ?_) (fun hc5 => ?_)))))))
  ·
   replace hc5 := dt hc5
   refine l_q (q_skip rfl) (l_q (q_skip rfl) (l_q (q_skip rfl) (l_q (q_skip rfl) (l_q (q_pick_t (v := .bool _) rfl rfl rfl) (l_q (qmb rfl rfl) (l_q (q_skip rfl) (l_q (q_skip rfl) (l_q (q_skip rfl) (l_q (q_skip rfl) (l_q (q_pick_t (v := .bool _) rfl rfl rfl) (l_nil (r_forget [(1, .pointer _), (26, .bool _)] ⟨rfl, rfl, trivial⟩ (fun e6 => (r_cond_t rfl (r_seq (r_region' (l_q (qab rfl rfl) (l_nil (r_ret_ (vs := [.bool _]) rfl Tryz.func17 rfl (.nil _) ⟨rfl, trivial⟩ ?_)))))))))))))))))))
   exact ⟨_, rfl, trivial, Ext.of_below hB⟩
  ·
   replace hc5 := dlt hc5
   refine l_q (q_fieldAddr (o' := 3) rfl fld29_3 rfl) (l_q (q_load Tryz.isAgg26 rfl ((hb1.has (o := 3) rfl)) rfl) (l_q (q_len rfl Tryz.underlying26 rfl rfl) (l_q (q_gtr rfl rfl rfl) (l_q (q_pick_f (v := .bool _) rfl rfl rfl) (l_q (qmb rfl rfl) (l_part 21 rfl (fun hc7 => ?_) (fun hc7 => ?_)))))))
   ·
    replace hc7 := dt hc7
    refine l_q (q_skip rfl) (l_q (q_skip rfl) (l_q (q_skip rfl) (l_q (q_skip rfl) (l_q (q_pick_t (v := .bool _) rfl rfl rfl) (l_nil (r_forget [(1, .pointer _), (26, .bool _)] ⟨rfl, rfl, trivial⟩ (fun e8 => (r_cond_t rfl (r_seq (r_region' (l_q (qab rfl rfl) (l_nil (r_ret_ (vs := [.bool _]) rfl Tryz.func17 rfl (.nil _) ⟨rfl, trivial⟩ ?_)))))))))))))
    exact ⟨_, rfl, trivial, Ext.of_below hB⟩
   ·
    replace hc7 := dlt hc7
    refine l_q (q_fieldAddr (o' := 4) rfl fld29_4 rfl) (l_q (q_load Tryz.isAgg27 rfl ((hb1.has (o := 4) rfl)) rfl) (l_q (q_len rfl Tryz.underlying27 rfl rfl) (l_q (q_gtr rfl rfl rfl) (l_q (q_pick_f (v := .bool _) rfl rfl rfl) (l_nil (r_forget [(1, .pointer _), (26, .bool _)] ⟨rfl, rfl, trivial⟩ (fun e9 => (r_cond rfl (fun hc10 => ?_) (fun hc10 => ?_)))))))))
    ·
     replace hc10 := dt hc10
     refine r_seq (r_region' (l_q (qab rfl rfl) (l_nil (r_ret_ (vs := [.bool _]) rfl Tryz.func17 rfl (.nil _) ⟨rfl, trivial⟩ ?_))))
     exact ⟨_, rfl, trivial, Ext.of_below hB⟩
    ·
     replace hc10 := dlt hc10
     refine r_skip (r_seq (r_seq (r_region' (l_q (qai rfl rfl) (l_nil (r_block (r_rounds (α := Nat) (fun k e wl => Knows e [(1, ptr b1 0), (3, vint (k : Int))] ∧ (k ≤ sl.length) ∧ (Blk wl b1 [.slice ka co.length kc, vint er, .slice sa se.length sc, .slice ja sl.length jc, .slice ra rl.length rc]) ∧ (w.heap.size ≤ wl.heap.size) ∧ (Below w.heap.size w wl)) (fun k => sl.length - k) 0 ?_ ?_)))))))
     ·
      exact ⟨⟨rfl, rfl, trivial⟩, (Nat.zero_le _), hb1, hsz, hB⟩
     ·
      rintro k el11 wl11 ⟨hkn, hkk, hb1, hsz, hB⟩ ih11
      obtain ⟨e11, rfl⟩ := knows_env hkn
      refine r_seq (r_seq (r_region' (l_q (qmi rfl rfl) (l_q (q_fieldAddr (o' := 3) rfl fld29_3 rfl) (l_q (q_load Tryz.isAgg26 rfl ((hb1.has (o := 3) rfl)) rfl) (l_q (q_len rfl Tryz.underlying26 rfl rfl) (l_q (q_lss rfl rfl rfl) (l_nil (r_cond rfl (fun hc12 => ?_) (fun hc12 => ?_))))))))))
      ·
       replace hc12 := dt hc12
       have hks : k < sl.length := by omega
       have hjx := hjl _ (getD_lt (d := sn00) hks)
       refine r_skip (r_seq (r_block (r_seq (r_region' (l_q (q_fieldAddr (o' := 3) rfl fld29_3 rfl) (l_q (q_load Tryz.isAgg26 rfl ((hb1.has (o := 3) rfl)) rfl) (l_q (qmi rfl rfl) ?_)))))))
       obtain ⟨b13, o13, ha13, hh13⟩ := (hlg.rsl.below hB).at (by decide) k (by omega)
       refine l_q (q_indexAddr Tryz.underlying26 Tryz.sizeOf69 rfl ha13 rfl (by omega) rfl) (l_q (q_fieldAddr (o' := 2) rfl fld69_2 rfl) (l_q (q_load Tryz.isAgg25 rfl (((cells_cast (wide_at SN.len sn00 _ _ (by omega)) hh13) 2 _ rfl)) rfl) (l_q (q_len rfl Tryz.underlying25 rfl rfl) (l_q (q_gtr rfl rfl rfl) (l_nil (r_forget [(1, .pointer _), (3, .int _ _), (41, .bool _)] ⟨rfl, rfl, rfl, trivial⟩ (fun e14 => (r_cond rfl (fun hc15 => ?_) (fun hc15 => ?_)))))))))
       ·
        replace hc15 := dt hc15
        refine r_seq (r_region' (l_q (qab rfl rfl) (l_nil (r_ret_ (vs := [.bool _]) rfl Tryz.func17 rfl (.nil _) ⟨rfl, trivial⟩ ?_))))
        exact ⟨_, rfl, trivial, Ext.of_below hB⟩
       ·
        replace hc15 := dlt hc15
        refine r_skip (r_inBlock (r_region' (l_q (qmi rfl rfl) (l_q (q_add rfl rfl (by omega) rfl) (l_q (qai rfl rfl) (l_nil ?_))))))
        exact ih11 (k + 1) _ _ ⟨⟨rfl, (vint_eq (by omega)), trivial⟩, (by omega), hb1, hsz, hB⟩ (by first | omega | (dsimp only; omega))
      ·
       replace hc12 := dlt hc12
       refine r_exit rfl (r_seq (r_seq (r_region' (l_q (qai rfl rfl) (l_nil (r_block (r_rounds (α := Nat) (fun k2 e wl => Knows e [(1, ptr b1 0), (4, vint (k2 : Int))] ∧ (k2 ≤ rl.length) ∧ (Blk wl b1 [.slice ka co.length kc, vint er, .slice sa se.length sc, .slice ja sl.length jc, .slice ra rl.length rc]) ∧ (w.heap.size ≤ wl.heap.size) ∧ (Below w.heap.size w wl)) (fun k2 => rl.length - k2) 0 ?_ ?_)))))))
       ·
        exact ⟨⟨rfl, rfl, trivial⟩, (Nat.zero_le _), hb1, hsz, hB⟩
       ·
        rintro k2 el16 wl16 ⟨hkn, hkk2, hb1, hsz, hB⟩ ih16
        obtain ⟨e16, rfl⟩ := knows_env hkn
        refine r_seq (r_seq (r_region' (l_q (qmi rfl rfl) (l_q (q_fieldAddr (o' := 4) rfl fld29_4 rfl) (l_q (q_load Tryz.isAgg27 rfl ((hb1.has (o := 4) rfl)) rfl) (l_q (q_len rfl Tryz.underlying27 rfl rfl) (l_q (q_lss rfl rfl rfl) (l_nil (r_cond rfl (fun hc17 => ?_) (fun hc17 => ?_))))))))))
        ·
         replace hc17 := dt hc17
         have hkr : k2 < rl.length := by omega
         have hrx := hrl _ (getD_lt (d := rcd0) hkr)
         refine r_skip (r_seq (r_block (r_seq (r_region' (l_q (q_fieldAddr (o' := 4) rfl fld29_4 rfl) (l_q (q_load Tryz.isAgg27 rfl ((hb1.has (o := 4) rfl)) rfl) (l_q (qmi rfl rfl) ?_)))))))
         obtain ⟨b18, o18, ha18, hh18⟩ := (hlg.rrl.below hB).at (by decide) k2 (by omega)
         refine l_q (q_indexAddr Tryz.underlying27 Tryz.sizeOf61 rfl ha18 rfl (by omega) rfl) (l_q (q_fieldAddr (o' := 2) rfl fld61_2 rfl) (l_q (q_load Tryz.isAgg9 rfl (((cells_cast (wide_at RC.len rcd0 _ _ (by omega)) hh18) 2 _ rfl)) rfl) (l_q (q_len_str rfl Tryz.underlying9 rfl rfl) (l_q (q_gtr rfl rfl rfl) (l_nil (r_forget [(1, .pointer _), (4, .int _ _), (56, .bool _)] ⟨rfl, rfl, rfl, trivial⟩ (fun e19 => (r_cond rfl (fun hc20 => ?_) (fun hc20 => ?_)))))))))
         ·
          replace hc20 := dt hc20
          refine r_seq (r_region' (l_q (qab rfl rfl) (l_nil (r_ret_ (vs := [.bool _]) rfl Tryz.func17 rfl (.nil _) ⟨rfl, trivial⟩ ?_))))
          exact ⟨_, rfl, trivial, Ext.of_below hB⟩
         ·
          replace hc20 := dlt hc20
          refine r_skip (r_inBlock (r_region' (l_q (qmi rfl rfl) (l_q (q_add rfl rfl (by omega) rfl) (l_q (qai rfl rfl) (l_nil ?_))))))
          exact ih16 (k2 + 1) _ _ ⟨⟨rfl, (vint_eq (by omega)), trivial⟩, (by omega), hb1, hsz, hB⟩ (by first | omega | (dsimp only; omega))
        ·
         replace hc17 := dlt hc17
         refine r_exit rfl (r_seq (r_region' (l_q (qab rfl rfl) (l_nil (r_ret_ (vs := [.bool _]) rfl Tryz.func17 rfl (.nil _) ⟨rfl, trivial⟩ ?_)))))
         exact ⟨_, rfl, trivial, Ext.of_below hB⟩
theorem rfault6_ret (ka : Option Addr) (kc : Nat) (co : List Sg) (er : Int) (sa : Option Addr) (sc : Nat) (se : List Int) (ja : Option Addr) (jc : Nat) (sl : List SN) (ra : Option Addr) (rc : Nat) (rl : List RC) (w : World) (hlg : LgAt w ka kc co sa sc se ja jc sl ra rc rl) (hbg : LgBig co er se sl rl) : Ret Tryz.prog 66 [.agg ⟨[.slice ka co.length kc, vint er, .slice sa se.length sc, .slice ja sl.length jc, .slice ra rl.length rc]⟩] w (fun v w' => v = vint (faultM (lg co er se sl rl)) ∧ Ext w w') := by
 obtain ⟨⟨hcn, hcl⟩, hen, hsn, ⟨hjn, hjl⟩, hrn, hrl⟩ := id hbg
 have hB := Below.refl w.heap.size w
 have hsz : w.heap.size ≤ w.heap.size := Nat.le_refl _
 refine ret_of_runs (args := [_]) Tryz.func66 rfl (Nat.le_of_ble_eq_true rfl) (by kernel_rfl) (r_seq (r_region' (l_o (o_box rfl rfl rfl ?_))))
 intro b1 w1 hzl1 hzr1 _ hb1 hE1
 have hbs_b1 : w.heap.size ≤ b1 := Nat.le_trans hsz hzl1
 replace hB := below_ext hB hE1 hsz
 replace hsz := Nat.le_trans hsz hE1.size
 refine l_q (qai rfl rfl) (l_nil (r_seq (r_seq (r_region' (l_q (q_fieldAddr (o' := 2) rfl fld29_2 rfl) (l_q (q_load Tryz.isAgg25 rfl ((hb1.has (o := 2) rfl)) rfl) (l_q (q_len rfl Tryz.underlying25 rfl rfl) (l_q (q_gtr rfl rfl rfl) (l_q (qmb rfl rfl) (l_part 13 rfl (fun hc2 => ?_) (fun hc2 => ?_)))))))))))
 ·
  replace hc2 := dt hc2
  refine l_q (q_skip rfl) (l_q (q_skip rfl) (l_q (q_skip rfl) (l_q (q_skip rfl) (l_q (q_pick_t (v := .bool _) rfl rfl rfl) (l_q (qmb rfl rfl) (l_q (q_skip rfl) (l_q (q_skip rfl) (l_q (q_skip rfl) (l_q (q_skip rfl) (l_q (q_pick_t (v := .bool _) rfl rfl rfl) (l_nil (r_forget [(1, .pointer _), (24, .bool _)] ⟨rfl, rfl, trivial⟩ (fun e3 => (r_cond_t rfl (r_seq (r_region' (l_q (qai rfl rfl) (l_nil (r_ret_ (vs := [.int _ _]) rfl Tryz.func66 rfl (.nil _) ⟨rfl, trivial⟩ ?_)))))))))))))))))))
  exact ⟨vint_eq (lg_3 (by omega)).symm, Ext.of_below hB⟩
 ·
  replace hc2 := dlt hc2
  refine l_q (q_fieldAddr (o' := 3) rfl fld29_3 rfl) (l_q (q_load Tryz.isAgg26 rfl ((hb1.has (o := 3) rfl)) rfl) (l_q (q_len rfl Tryz.underlying26 rfl rfl) (l_q (q_gtr rfl rfl rfl) (l_q (q_pick_f (v := .bool _) rfl rfl rfl) (l_q (qmb rfl rfl) (l_part 19 rfl (fun hc4 => ?_) (fun hc4 => ?_)))))))
  ·
   replace hc4 := dt hc4
   refine l_q (q_skip rfl) (l_q (q_skip rfl) (l_q (q_skip rfl) (l_q (q_skip rfl) (l_q (q_pick_t (v := .bool _) rfl rfl rfl) (l_nil (r_forget [(1, .pointer _), (24, .bool _)] ⟨rfl, rfl, trivial⟩ (fun e5 => (r_cond_t rfl (r_seq (r_region' (l_q (qai rfl rfl) (l_nil (r_ret_ (vs := [.int _ _]) rfl Tryz.func66 rfl (.nil _) ⟨rfl, trivial⟩ ?_)))))))))))))
   exact ⟨vint_eq (lg_3 (by omega)).symm, Ext.of_below hB⟩
  ·
   replace hc4 := dlt hc4
   refine l_q (q_fieldAddr (o' := 4) rfl fld29_4 rfl) (l_q (q_load Tryz.isAgg27 rfl ((hb1.has (o := 4) rfl)) rfl) (l_q (q_len rfl Tryz.underlying27 rfl rfl) (l_q (q_gtr rfl rfl rfl) (l_q (q_pick_f (v := .bool _) rfl rfl rfl) (l_nil (r_forget [(1, .pointer _), (24, .bool _)] ⟨rfl, rfl, trivial⟩ (fun e6 => (r_cond rfl (fun hc7 => ?_) (fun hc7 => ?_)))))))))
   ·
    replace hc7 := dt hc7
    refine r_seq (r_region' (l_q (qai rfl rfl) (l_nil (r_ret_ (vs := [.int _ _]) rfl Tryz.func66 rfl (.nil _) ⟨rfl, trivial⟩ ?_))))
    exact ⟨vint_eq (lg_3 (by omega)).symm, Ext.of_below hB⟩
   ·
    replace hc7 := dlt hc7
    refine r_skip (r_seq (r_seq (r_region' (l_q (q_fieldAddr (o' := 0) rfl fld29_0 rfl) (l_q (q_load_agg (n := 1) Tryz.isAgg24 Tryz.sizeOf24 rfl ((hb1.cells' (cs' := [_]) 0 1 rfl)) rfl rfl) (l_o (o_call Tryz.call96 rfl (fault_ret _ _ _ _ (hlg.rco.below hB) (by omega)) rfl ?_)))))))
    rintro _ w8 ⟨rfl, hE8⟩
    replace hB := below_ext hB hE8 hsz
    replace hb1 := hb1.ext hE8
    replace hsz := Nat.le_trans hsz hE8.size
    refine l_q (qai rfl rfl) (l_nil (r_seq (r_region' (l_q (qmi rfl rfl) (l_q (q_neq rfl rfl rfl) (l_nil (r_cond rfl (fun hc9 => ?_) (fun hc9 => ?_))))))))
    ·
     replace hc9 := df (nt hc9)
     have hf1 : ¬ fault co = 0 := by have := hc9; omega
     refine r_seq (r_region' (l_q (qmi rfl rfl) (l_q (qai rfl rfl) (l_nil (r_ret_ (vs := [.int _ _]) rfl Tryz.func66 rfl (.nil _) ⟨rfl, trivial⟩ ?_)))))
     exact ⟨vint_eq (lg_f (by omega) hf1).symm, Ext.of_below hB⟩
    ·
     replace hc9 := dt (nf hc9)
     have hf0 : fault co = 0 := by have := hc9; omega
     refine r_skip (r_seq (r_seq (r_region' (l_q (q_fieldAddr (o' := 1) rfl fld29_1 rfl) (l_q (q_load Tryz.isAgg3 rfl ((hb1.has (o := 1) rfl)) rfl) (l_o (o_call Tryz.call23 rfl (in6_ret _ _ _ _) rfl ?_)))))))
     rintro _ w10 ⟨rfl, rfl⟩
     refine l_q (q_not rfl rfl) (l_q (qmb rfl rfl) (l_part 35 rfl (fun hc11 => ?_) (fun hc11 => ?_)))
     ·
      replace hc11 := b2f (nt hc11)
      refine l_q (q_skip rfl) (l_q (q_skip rfl) (l_q (q_skip rfl) (l_q (q_skip rfl) (l_q (q_pick_t (v := .bool _) rfl rfl rfl) (l_nil (r_forget [(1, .pointer _), (40, .bool _)] ⟨rfl, rfl, trivial⟩ (fun e12 => (r_cond_t rfl (r_seq (r_region' (l_q (qai rfl rfl) (l_nil (r_ret_ (vs := [.int _ _]) rfl Tryz.func66 rfl (.nil _) ⟨rfl, trivial⟩ ?_)))))))))))))
      exact ⟨vint_eq (lg_1 (by omega) hf0 (fun ⟨h1, h2, h3, h4, h5⟩ => by omega)).symm, Ext.of_below hB⟩
     ·
      replace hc11 := b2t (nf hc11)
      refine l_q (q_fieldAddr (o' := 2) rfl fld29_2 rfl) (l_q (q_load Tryz.isAgg25 rfl ((hb1.has (o := 2) rfl)) rfl) (l_q (q_len rfl Tryz.underlying25 rfl rfl) (l_q (q_eql rfl rfl rfl) (l_q (q_pick_f (v := .bool _) rfl rfl rfl) (l_nil (r_forget [(1, .pointer _), (40, .bool _)] ⟨rfl, rfl, trivial⟩ (fun e13 => (r_cond rfl (fun hc14 => ?_) (fun hc14 => ?_)))))))))
      ·
       replace hc14 := dt hc14
       refine r_seq (r_region' (l_q (qai rfl rfl) (l_nil (r_ret_ (vs := [.int _ _]) rfl Tryz.func66 rfl (.nil _) ⟨rfl, trivial⟩ ?_))))
       exact ⟨vint_eq (lg_1 (by omega) hf0 (fun ⟨h1, h2, h3, h4, h5⟩ => by omega)).symm, Ext.of_below hB⟩
      ·
       replace hc14 := df hc14
       refine r_skip (r_seq (r_seq (r_region' (l_q (qai rfl rfl) (l_nil (r_block (r_rounds (α := Nat) (fun k e wl => Knows e [(1, ptr b1 0), (4, vint (k : Int))] ∧ (k ≤ se.length) ∧ (∀ j, j < k → okSee (se.getD j 0) = true) ∧ (Blk wl b1 [.slice ka co.length kc, vint er, .slice sa se.length sc, .slice ja sl.length jc, .slice ra rl.length rc]) ∧ (w.heap.size ≤ wl.heap.size) ∧ (Below w.heap.size w wl)) (fun k => se.length - k) 0 ?_ ?_)))))))
       ·
        exact ⟨⟨rfl, rfl, trivial⟩, (Nat.zero_le _), (fun i hi => absurd hi (Nat.not_lt_zero _)), hb1, hsz, hB⟩
       ·
        rintro k el15 wl15 ⟨hkn, hkk, hq1, hb1, hsz, hB⟩ ih15
        obtain ⟨e15, rfl⟩ := knows_env hkn
        refine r_seq (r_seq (r_region' (l_q (qmi rfl rfl) (l_q (q_fieldAddr (o' := 2) rfl fld29_2 rfl) (l_q (q_load Tryz.isAgg25 rfl ((hb1.has (o := 2) rfl)) rfl) (l_q (q_len rfl Tryz.underlying25 rfl rfl) (l_q (q_lss rfl rfl rfl) (l_nil (r_cond rfl (fun hc16 => ?_) (fun hc16 => ?_))))))))))
        ·
         replace hc16 := dt hc16
         have hks : k < se.length := by omega
         refine r_skip (r_seq (r_block (r_seq (r_region' (l_q (q_fieldAddr (o' := 2) rfl fld29_2 rfl) (l_q (q_load Tryz.isAgg25 rfl ((hb1.has (o := 2) rfl)) rfl) (l_q (qmi rfl rfl) ?_)))))))
         obtain ⟨b17, o17, ha17, hh17⟩ := (hlg.rse.below hB).at1 k ((se).getD k 0) (getD_some (by omega))
         refine l_q (q_indexAddr1 Tryz.underlying25 Tryz.sizeOf3 rfl ha17 rfl (by omega) rfl) (l_q (q_load Tryz.isAgg3 rfl (hh17) rfl) (l_o (o_call Tryz.call23 rfl (in6_ret _ _ _ _) rfl ?_)))
         rintro _ w18 ⟨rfl, rfl⟩
         refine l_q (q_not rfl rfl) (l_nil (r_forget [(1, .pointer _), (4, .int _ _), (54, .bool _)] ⟨rfl, rfl, rfl, trivial⟩ (fun e19 => (r_cond rfl (fun hc20 => ?_) (fun hc20 => ?_)))))
         ·
          replace hc20 := b2f (nt hc20)
          have g54 := hc20
          refine r_seq (r_region' (l_q (qai rfl rfl) (l_nil (r_ret_ (vs := [.int _ _]) rfl Tryz.func66 rfl (.nil _) ⟨rfl, trivial⟩ ?_))))
          exact ⟨vint_eq (lg_1 (by omega) hf0 (fun ⟨h1, h2, h3, h4, h5⟩ => by have h6 := List.all_eq_true.1 h3 _ (getD_lt (d := 0) hks); unfold okSee at h6; rw [Bool.and_eq_true, decide_eq_true_eq, decide_eq_true_eq] at h6; omega)).symm, Ext.of_below hB⟩
         ·
          replace hc20 := b2t (nf hc20)
          have g54 := hc20
          refine r_skip (r_inBlock (r_region' (l_q (qmi rfl rfl) (l_q (q_add rfl rfl (by omega) rfl) (l_q (qai rfl rfl) (l_nil ?_))))))
          exact ih15 (k + 1) _ _ ⟨⟨rfl, (vint_eq (by omega)), trivial⟩, (by omega), (fun j hj => by rcases Nat.lt_succ_iff_lt_or_eq.1 hj with h | h; exact hq1 j h; subst h; unfold okSee; rw [Bool.and_eq_true, decide_eq_true_eq, decide_eq_true_eq]; omega), hb1, hsz, hB⟩ (by first | omega | (dsimp only; omega))
        ·
         replace hc16 := dlt hc16
         refine r_exit rfl (r_seq (r_seq (r_region' (l_q (qai rfl rfl) (l_nil (r_block (r_rounds (α := Nat) (fun k2 e wl => Knows e [(1, ptr b1 0), (5, vint (k2 : Int))] ∧ (k2 ≤ sl.length) ∧ (∀ j, j < k2 → okSn co se.length (sl.getD j sn00).pn = true) ∧ (Blk wl b1 [.slice ka co.length kc, vint er, .slice sa se.length sc, .slice ja sl.length jc, .slice ra rl.length rc]) ∧ (w.heap.size ≤ wl.heap.size) ∧ (Below w.heap.size w wl)) (fun k2 => sl.length - k2) 0 ?_ ?_)))))))
         ·
          exact ⟨⟨rfl, rfl, trivial⟩, (Nat.zero_le _), (fun i hi => absurd hi (Nat.not_lt_zero _)), hb1, hsz, hB⟩
         ·
          rintro k2 el21 wl21 ⟨hkn, hkk2, hq2, hb1, hsz, hB⟩ ih21
          obtain ⟨e21, rfl⟩ := knows_env hkn
          refine r_seq (r_seq (r_region' (l_q (qmi rfl rfl) (l_q (q_fieldAddr (o' := 3) rfl fld29_3 rfl) (l_q (q_load Tryz.isAgg26 rfl ((hb1.has (o := 3) rfl)) rfl) (l_q (q_len rfl Tryz.underlying26 rfl rfl) (l_q (q_lss rfl rfl rfl) (l_nil (r_cond rfl (fun hc22 => ?_) (fun hc22 => ?_))))))))))
          ·
           replace hc22 := dt hc22
           have hks : k2 < sl.length := by omega
           have hjx := hjl _ (getD_lt (d := sn00) hks)
           refine r_skip (r_seq (r_block (r_seq (r_region' (l_q (q_fieldAddr (o' := 3) rfl fld29_3 rfl) (l_q (q_load Tryz.isAgg26 rfl ((hb1.has (o := 3) rfl)) rfl) (l_q (qmi rfl rfl) ?_)))))))
           obtain ⟨b23, o23, ha23, hh23⟩ := (hlg.rsl.below hB).at (by decide) k2 (by omega)
           refine l_q (q_indexAddr Tryz.underlying26 Tryz.sizeOf69 rfl ha23 rfl (by omega) rfl) (l_q (q_load_agg (cs := [vint (((sl).getD k2 sn00).h), vint (((sl).getD k2 sn00).st), .slice (((sl).getD k2 sn00).a) (((sl).getD k2 sn00).xs.length) (((sl).getD k2 sn00).c)]) (n := 3) Tryz.isAgg69 Tryz.sizeOf69 rfl ((cells_cast (wide_at SN.len sn00 _ _ (by omega)) hh23)) rfl rfl) (l_o (o_alloc Tryz.zeroValue69 rfl rfl ?_)))
           intro b24 w24 hzl24 hzr24 _ hb24 hE24
           have hne_b1_b24 : b1 ≠ b24 := by have := hb1.lt; omega
           have hbs_b24 : w.heap.size ≤ b24 := Nat.le_trans hsz hzl24
           replace hB := below_ext hB hE24 hsz
           replace hb1 := hb1.ext hE24
           replace hsz := Nat.le_trans hsz hE24.size
           refine l_o (o_store (vs := [vint (((sl).getD k2 sn00).h), vint (((sl).getD k2 sn00).st), .slice (((sl).getD k2 sn00).a) (((sl).getD k2 sn00).xs.length) (((sl).getD k2 sn00).c)]) (cs' := [vint (((sl).getD k2 sn00).h), vint (((sl).getD k2 sn00).st), .slice (((sl).getD k2 sn00).a) (((sl).getD k2 sn00).xs.length) (((sl).getD k2 sn00).c)]) Tryz.sizeOf69 rfl rfl rfl rfl hb24 (Nat.le_of_ble_eq_true rfl) rfl rfl ?_)
           intro w25 hz25 hb24 hG25
           replace hB := below_upd hB hG25 hsz (by omega)
           replace hsz : w.heap.size ≤ w25.heap.size := by rw [hz25]; exact hsz
           replace hb1 := hb1.upd hG25 (by omega)
           refine l_nil (r_forget [(1, .pointer _), (5, .int _ _), (6, .pointer _)] ⟨rfl, rfl, rfl, trivial⟩ (fun e26 => (r_seq (r_region' (l_q (q_fieldAddr (o' := 0) rfl fld69_0 rfl) (l_q (q_load Tryz.isAgg3 rfl ((hb24.has (o := 0) rfl)) rfl) (l_o (o_call Tryz.call23 rfl (in6_ret _ _ _ _) rfl ?_))))))))
           rintro _ w27 ⟨rfl, rfl⟩
           refine l_q (q_not rfl rfl) (l_q (qmb rfl rfl) (l_part 71 rfl (fun hc28 => ?_) (fun hc28 => ?_)))
           ·
            replace hc28 := b2f (nt hc28)
            refine l_q (q_skip rfl) (l_q (q_skip rfl) (l_q (q_skip rfl) (l_q (q_skip rfl) (l_q (q_skip rfl) (l_q (q_skip rfl) (l_q (q_skip rfl) (l_q (q_skip rfl) (l_q (q_pick_t (v := .bool _) rfl rfl rfl) (l_q (qmb rfl rfl) (l_q (q_skip rfl) (l_q (q_skip rfl) (l_q (q_skip rfl) (l_q (q_skip rfl) (l_q (q_skip rfl) (l_q (q_pick_t (v := .bool _) rfl rfl rfl) (l_q (qmb rfl rfl) (l_q (q_skip rfl) (l_q (q_skip rfl) (l_q (q_skip rfl) (l_q (q_skip rfl) (l_q (q_skip rfl) (l_q (q_skip rfl) (l_q (q_pick_t (v := .bool _) rfl rfl rfl) (l_nil (r_forget [(1, .pointer _), (5, .int _ _), (95, .bool _)] ⟨rfl, rfl, rfl, trivial⟩ (fun e29 => (r_cond_t rfl (r_seq (r_region' (l_q (qai rfl rfl) (l_nil (r_ret_ (vs := [.int _ _]) rfl Tryz.func66 rfl (.nil _) ⟨rfl, trivial⟩ ?_))))))))))))))))))))))))))))))))
            exact ⟨vint_eq (lg_1 (by omega) hf0 (fun ⟨h1, h2, h3, h4, h5⟩ => by have h10 := List.all_eq_true.1 h4 _ (getD_lt (d := sn00) hks); rw [oksn_iff] at h10; obtain ⟨h6, h7, h8, h9⟩ := h10; first | omega | (rw [h9] at g95; simp at g95))).symm, Ext.of_below hB⟩
           ·
            replace hc28 := b2t (nf hc28)
            refine l_q (q_fieldAddr (o' := 1) rfl fld69_1 rfl) (l_q (q_load Tryz.isAgg3 rfl ((hb24.has (o := 1) rfl)) rfl) (l_q (q_fieldAddr (o' := 2) rfl fld29_2 rfl) (l_q (q_load Tryz.isAgg25 rfl ((hb1.has (o := 2) rfl)) rfl) (l_q (q_len rfl Tryz.underlying25 rfl rfl) (l_q (q_sub rfl rfl (by omega) rfl) (l_o (o_call Tryz.call23 rfl (in6_ret _ _ _ _) rfl ?_)))))))
            rintro _ w30 ⟨rfl, rfl⟩
            refine l_q (q_not rfl rfl) (l_q (q_pick_f (v := .bool _) rfl rfl rfl) (l_q (qmb rfl rfl) (l_part 81 rfl (fun hc31 => ?_) (fun hc31 => ?_))))
            ·
             replace hc31 := b2f (nt hc31)
             refine l_q (q_skip rfl) (l_q (q_skip rfl) (l_q (q_skip rfl) (l_q (q_skip rfl) (l_q (q_skip rfl) (l_q (q_pick_t (v := .bool _) rfl rfl rfl) (l_q (qmb rfl rfl) (l_q (q_skip rfl) (l_q (q_skip rfl) (l_q (q_skip rfl) (l_q (q_skip rfl) (l_q (q_skip rfl) (l_q (q_skip rfl) (l_q (q_pick_t (v := .bool _) rfl rfl rfl) (l_nil (r_forget [(1, .pointer _), (5, .int _ _), (95, .bool _)] ⟨rfl, rfl, rfl, trivial⟩ (fun e32 => (r_cond_t rfl (r_seq (r_region' (l_q (qai rfl rfl) (l_nil (r_ret_ (vs := [.int _ _]) rfl Tryz.func66 rfl (.nil _) ⟨rfl, trivial⟩ ?_))))))))))))))))))))))
             exact ⟨vint_eq (lg_1 (by omega) hf0 (fun ⟨h1, h2, h3, h4, h5⟩ => by have h10 := List.all_eq_true.1 h4 _ (getD_lt (d := sn00) hks); rw [oksn_iff] at h10; obtain ⟨h6, h7, h8, h9⟩ := h10; first | omega | (rw [h9] at g95; simp at g95))).symm, Ext.of_below hB⟩
            ·
             replace hc31 := b2t (nf hc31)
             refine l_q (q_fieldAddr (o' := 2) rfl fld69_2 rfl) (l_q (q_load Tryz.isAgg25 rfl ((hb24.has (o := 2) rfl)) rfl) (l_q (q_len rfl Tryz.underlying25 rfl rfl) (l_o (o_call Tryz.call23 rfl (in6_ret _ _ _ _) rfl ?_))))
             rintro _ w33 ⟨rfl, rfl⟩
             refine l_q (q_not rfl rfl) (l_q (q_pick_f (v := .bool _) rfl rfl rfl) (l_q (qmb rfl rfl) (l_part 88 rfl (fun hc34 => ?_) (fun hc34 => ?_))))
             ·
              replace hc34 := b2f (nt hc34)
              refine l_q (q_skip rfl) (l_q (q_skip rfl) (l_q (q_skip rfl) (l_q (q_skip rfl) (l_q (q_skip rfl) (l_q (q_skip rfl) (l_q (q_pick_t (v := .bool _) rfl rfl rfl) (l_nil (r_forget [(1, .pointer _), (5, .int _ _), (95, .bool _)] ⟨rfl, rfl, rfl, trivial⟩ (fun e35 => (r_cond_t rfl (r_seq (r_region' (l_q (qai rfl rfl) (l_nil (r_ret_ (vs := [.int _ _]) rfl Tryz.func66 rfl (.nil _) ⟨rfl, trivial⟩ ?_)))))))))))))))
              exact ⟨vint_eq (lg_1 (by omega) hf0 (fun ⟨h1, h2, h3, h4, h5⟩ => by have h10 := List.all_eq_true.1 h4 _ (getD_lt (d := sn00) hks); rw [oksn_iff] at h10; obtain ⟨h6, h7, h8, h9⟩ := h10; first | omega | (rw [h9] at g95; simp at g95))).symm, Ext.of_below hB⟩
             ·
              replace hc34 := b2t (nf hc34)
              refine l_q (q_fieldAddr (o' := 0) rfl fld29_0 rfl) (l_q (q_load_agg (n := 1) Tryz.isAgg24 Tryz.sizeOf24 rfl ((hb1.cells' (cs' := [_]) 0 1 rfl)) rfl rfl) (l_q (q_fieldAddr (o' := 2) rfl fld69_2 rfl) (l_q (q_load Tryz.isAgg25 rfl ((hb24.has (o := 2) rfl)) rfl) (l_o (o_call Tryz.call97 rfl (isText_ret _ _ _ _ _ _ _ (hlg.rco.below hB) (by omega) ((RowsS.get (hlg.rslr) (i := k2) (by omega)).below hB) (by omega)) rfl ?_)))))
              rintro _ w36 ⟨rfl, hE36⟩
              replace hB := below_ext hB hE36 hsz
              replace hb1 := hb1.ext hE36
              replace hsz := Nat.le_trans hsz hE36.size
              refine l_q (q_not rfl rfl) (l_q (q_pick_f (v := .bool _) rfl rfl rfl) (l_nil (r_forget [(1, .pointer _), (5, .int _ _), (95, .bool _)] ⟨rfl, rfl, rfl, trivial⟩ (fun e37 => (r_cond rfl (fun hc38 => ?_) (fun hc38 => ?_))))))
              ·
               replace hc38 := nt hc38
               have g95 := hc38
               refine r_seq (r_region' (l_q (qai rfl rfl) (l_nil (r_ret_ (vs := [.int _ _]) rfl Tryz.func66 rfl (.nil _) ⟨rfl, trivial⟩ ?_))))
               exact ⟨vint_eq (lg_1 (by omega) hf0 (fun ⟨h1, h2, h3, h4, h5⟩ => by have h10 := List.all_eq_true.1 h4 _ (getD_lt (d := sn00) hks); rw [oksn_iff] at h10; obtain ⟨h6, h7, h8, h9⟩ := h10; first | omega | (rw [h9] at g95; simp at g95))).symm, Ext.of_below hB⟩
              ·
               replace hc38 := nf hc38
               have g95 := hc38
               refine r_skip (r_inBlock (r_region' (l_q (qmi rfl rfl) (l_q (q_add rfl rfl (by omega) rfl) (l_q (qai rfl rfl) (l_nil ?_))))))
               exact ih21 (k2 + 1) _ _ ⟨⟨rfl, (vint_eq (by omega)), trivial⟩, (by omega), (fun j hj => by rcases Nat.lt_succ_iff_lt_or_eq.1 hj with h | h; exact hq2 j h; subst h; rw [oksn_iff]; exact ⟨by omega, by omega, by omega, by first | assumption | simpa using g95⟩), hb1, hsz, hB⟩ (by first | omega | (dsimp only; omega))
          ·
           replace hc22 := dlt hc22
           refine r_exit rfl (r_seq (r_seq (r_region' (l_q (qai rfl rfl) (l_nil (r_block (r_rounds (α := Nat) (fun k3 e wl => Knows e [(1, ptr b1 0), (7, vint (k3 : Int))] ∧ (k3 ≤ rl.length) ∧ (∀ j, j < k3 → okRC se.length (rl.getD j rcd0) = true) ∧ (Blk wl b1 [.slice ka co.length kc, vint er, .slice sa se.length sc, .slice ja sl.length jc, .slice ra rl.length rc]) ∧ (w.heap.size ≤ wl.heap.size) ∧ (Below w.heap.size w wl)) (fun k3 => rl.length - k3) 0 ?_ ?_)))))))
           ·
            exact ⟨⟨rfl, rfl, trivial⟩, (Nat.zero_le _), (fun i hi => absurd hi (Nat.not_lt_zero _)), hb1, hsz, hB⟩
           ·
            rintro k3 el39 wl39 ⟨hkn, hkk3, hq3, hb1, hsz, hB⟩ ih39
            obtain ⟨e39, rfl⟩ := knows_env hkn
            refine r_seq (r_seq (r_region' (l_q (qmi rfl rfl) (l_q (q_fieldAddr (o' := 4) rfl fld29_4 rfl) (l_q (q_load Tryz.isAgg27 rfl ((hb1.has (o := 4) rfl)) rfl) (l_q (q_len rfl Tryz.underlying27 rfl rfl) (l_q (q_lss rfl rfl rfl) (l_nil (r_cond rfl (fun hc40 => ?_) (fun hc40 => ?_))))))))))
            ·
             replace hc40 := dt hc40
             have hkr : k3 < rl.length := by omega
             have hrx := hrl _ (getD_lt (d := rcd0) hkr)
             refine r_skip (r_seq (r_block (r_seq (r_region' (l_q (q_fieldAddr (o' := 4) rfl fld29_4 rfl) (l_q (q_load Tryz.isAgg27 rfl ((hb1.has (o := 4) rfl)) rfl) (l_q (qmi rfl rfl) ?_)))))))
             obtain ⟨b41, o41, ha41, hh41⟩ := (hlg.rrl.below hB).at (by decide) k3 (by omega)
             refine l_q (q_indexAddr Tryz.underlying27 Tryz.sizeOf61 rfl ha41 rfl (by omega) rfl) (l_q (q_load_agg (cs := [vint (((rl).getD k3 rcd0).h), vint (((rl).getD k3 rcd0).st), vstr (((rl).getD k3 rcd0).s)]) (n := 3) Tryz.isAgg61 Tryz.sizeOf61 rfl ((cells_cast (wide_at RC.len rcd0 _ _ (by omega)) hh41)) rfl rfl) (l_o (o_alloc Tryz.zeroValue61 rfl rfl ?_)))
             intro b42 w42 hzl42 hzr42 _ hb42 hE42
             have hne_b1_b42 : b1 ≠ b42 := by have := hb1.lt; omega
             have hbs_b42 : w.heap.size ≤ b42 := Nat.le_trans hsz hzl42
             replace hB := below_ext hB hE42 hsz
             replace hb1 := hb1.ext hE42
             replace hsz := Nat.le_trans hsz hE42.size
             refine l_o (o_store (vs := [vint (((rl).getD k3 rcd0).h), vint (((rl).getD k3 rcd0).st), vstr (((rl).getD k3 rcd0).s)]) (cs' := [vint (((rl).getD k3 rcd0).h), vint (((rl).getD k3 rcd0).st), vstr (((rl).getD k3 rcd0).s)]) Tryz.sizeOf61 rfl rfl rfl rfl hb42 (Nat.le_of_ble_eq_true rfl) rfl rfl ?_)
             intro w43 hz43 hb42 hG43
             replace hB := below_upd hB hG43 hsz (by omega)
             replace hsz : w.heap.size ≤ w43.heap.size := by rw [hz43]; exact hsz
             replace hb1 := hb1.upd hG43 (by omega)
             refine l_nil (r_forget [(1, .pointer _), (7, .int _ _), (8, .pointer _)] ⟨rfl, rfl, rfl, trivial⟩ (fun e44 => (r_seq (r_region' (l_q (q_fieldAddr (o' := 0) rfl fld61_0 rfl) (l_q (q_load Tryz.isAgg3 rfl ((hb42.has (o := 0) rfl)) rfl) (l_o (o_call Tryz.call23 rfl (in6_ret _ _ _ _) rfl ?_))))))))
             rintro _ w45 ⟨rfl, rfl⟩
             refine l_q (q_not rfl rfl) (l_q (qmb rfl rfl) (l_part 112 rfl (fun hc46 => ?_) (fun hc46 => ?_)))
             ·
              replace hc46 := b2f (nt hc46)
              refine l_q (q_skip rfl) (l_q (q_skip rfl) (l_q (q_skip rfl) (l_q (q_skip rfl) (l_q (q_skip rfl) (l_q (q_skip rfl) (l_q (q_skip rfl) (l_q (q_skip rfl) (l_q (q_pick_t (v := .bool _) rfl rfl rfl) (l_q (qmb rfl rfl) (l_q (q_skip rfl) (l_q (q_skip rfl) (l_q (q_skip rfl) (l_q (q_skip rfl) (l_q (q_pick_t (v := .bool _) rfl rfl rfl) (l_nil (r_forget [(1, .pointer _), (7, .int _ _), (127, .bool _)] ⟨rfl, rfl, rfl, trivial⟩ (fun e47 => (r_cond_t rfl (r_seq (r_region' (l_q (qai rfl rfl) (l_nil (r_ret_ (vs := [.int _ _]) rfl Tryz.func66 rfl (.nil _) ⟨rfl, trivial⟩ ?_)))))))))))))))))))))))
              exact ⟨vint_eq (lg_1 (by omega) hf0 (fun ⟨h1, h2, h3, h4, h5⟩ => by have h10 := List.all_eq_true.1 h5 _ (getD_lt (d := rcd0) hkr); rw [okrc_iff] at h10; obtain ⟨h6, h7, h8⟩ := h10; omega)).symm, Ext.of_below hB⟩
             ·
              replace hc46 := b2t (nf hc46)
              refine l_q (q_fieldAddr (o' := 1) rfl fld61_1 rfl) (l_q (q_load Tryz.isAgg3 rfl ((hb42.has (o := 1) rfl)) rfl) (l_q (q_fieldAddr (o' := 2) rfl fld29_2 rfl) (l_q (q_load Tryz.isAgg25 rfl ((hb1.has (o := 2) rfl)) rfl) (l_q (q_len rfl Tryz.underlying25 rfl rfl) (l_q (q_sub rfl rfl (by omega) rfl) (l_o (o_call Tryz.call23 rfl (in6_ret _ _ _ _) rfl ?_)))))))
              rintro _ w48 ⟨rfl, rfl⟩
              refine l_q (q_not rfl rfl) (l_q (q_pick_f (v := .bool _) rfl rfl rfl) (l_q (qmb rfl rfl) (l_part 122 rfl (fun hc49 => ?_) (fun hc49 => ?_))))
              ·
               replace hc49 := b2f (nt hc49)
               refine l_q (q_skip rfl) (l_q (q_skip rfl) (l_q (q_skip rfl) (l_q (q_skip rfl) (l_q (q_pick_t (v := .bool _) rfl rfl rfl) (l_nil (r_forget [(1, .pointer _), (7, .int _ _), (127, .bool _)] ⟨rfl, rfl, rfl, trivial⟩ (fun e50 => (r_cond_t rfl (r_seq (r_region' (l_q (qai rfl rfl) (l_nil (r_ret_ (vs := [.int _ _]) rfl Tryz.func66 rfl (.nil _) ⟨rfl, trivial⟩ ?_)))))))))))))
               exact ⟨vint_eq (lg_1 (by omega) hf0 (fun ⟨h1, h2, h3, h4, h5⟩ => by have h10 := List.all_eq_true.1 h5 _ (getD_lt (d := rcd0) hkr); rw [okrc_iff] at h10; obtain ⟨h6, h7, h8⟩ := h10; omega)).symm, Ext.of_below hB⟩
              ·
               replace hc49 := b2t (nf hc49)
               refine l_q (q_fieldAddr (o' := 2) rfl fld61_2 rfl) (l_q (q_load Tryz.isAgg9 rfl ((hb42.has (o := 2) rfl)) rfl) (l_o (o_call Tryz.call98 rfl (signsFault_ret _ [] _ (by omega) (by decide)) rfl ?_)))
               rintro _ w51 ⟨rfl, rfl⟩
               refine l_q (q_neq rfl rfl rfl) (l_q (q_pick_f (v := .bool _) rfl rfl rfl) (l_nil (r_forget [(1, .pointer _), (7, .int _ _), (127, .bool _)] ⟨rfl, rfl, rfl, trivial⟩ (fun e52 => (r_cond rfl (fun hc53 => ?_) (fun hc53 => ?_))))))
               ·
                replace hc53 := df (nt hc53)
                have g127 := hc53
                refine r_seq (r_region' (l_q (qai rfl rfl) (l_nil (r_ret_ (vs := [.int _ _]) rfl Tryz.func66 rfl (.nil _) ⟨rfl, trivial⟩ ?_))))
                exact ⟨vint_eq (lg_1 (by omega) hf0 (fun ⟨h1, h2, h3, h4, h5⟩ => by have h10 := List.all_eq_true.1 h5 _ (getD_lt (d := rcd0) hkr); rw [okrc_iff] at h10; obtain ⟨h6, h7, h8⟩ := h10; omega)).symm, Ext.of_below hB⟩
               ·
                replace hc53 := dt (nf hc53)
                have g127 := hc53
                refine r_skip (r_inBlock (r_region' (l_q (qmi rfl rfl) (l_q (q_add rfl rfl (by omega) rfl) (l_q (qai rfl rfl) (l_nil ?_))))))
                exact ih39 (k3 + 1) _ _ ⟨⟨rfl, (vint_eq (by omega)), trivial⟩, (by omega), (fun j hj => by rcases Nat.lt_succ_iff_lt_or_eq.1 hj with h | h; exact hq3 j h; subst h; rw [okrc_iff]; exact ⟨by omega, by omega, by omega⟩), hb1, hsz, hB⟩ (by first | omega | (dsimp only; omega))
            ·
             replace hc40 := dlt hc40
             refine r_exit rfl (r_seq (r_region' (l_q (qai rfl rfl) (l_nil (r_ret_ (vs := [.int _ _]) rfl Tryz.func66 rfl (.nil _) ⟨rfl, trivial⟩ ?_)))))
             exact ⟨vint_eq (lg_0 (by omega) hf0 ⟨by omega, by omega, all_getD (d := 0) (fun j hj => hq1 j (by omega)), all_getD (d := sn00) (fun j hj => hq2 j (by omega)), all_getD (d := rcd0) (fun j hj => hq3 j (by omega))⟩).symm, Ext.of_below hB⟩
theorem lfault6_ret (ka : Option Addr) (kc : Nat) (co : List Sg) (er : Int) (sa : Option Addr) (sc : Nat) (se : List Int) (ja : Option Addr) (jc : Nat) (sl : List SN) (ra : Option Addr) (rc : Nat) (rl : List RC) (w : World) (hlg : LgAt w ka kc co sa sc se ja jc sl ra rc rl) (hbg : LgBig co er se sl rl) : Ret Tryz.prog 22 [.agg ⟨[.slice ka co.length kc, vint er, .slice sa se.length sc, .slice ja sl.length jc, .slice ra rl.length rc]⟩] w (fun v w' => v = vint (faultM (lg co er se sl rl)) ∧ Ext w w') := by
 obtain ⟨⟨hcn, hcl⟩, hen, hsn, ⟨hjn, hjl⟩, hrn, hrl⟩ := id hbg
 have hB := Below.refl w.heap.size w
 have hsz : w.heap.size ≤ w.heap.size := Nat.le_refl _
 refine ret_of_runs (args := [_]) Tryz.func22 rfl (Nat.le_of_ble_eq_true rfl) (by kernel_rfl) (r_seq (r_region' (l_o (o_box rfl rfl rfl ?_))))
 intro b1 w1 hzl1 hzr1 _ hb1 hE1
 have hbs_b1 : w.heap.size ≤ b1 := Nat.le_trans hsz hzl1
 replace hB := below_ext hB hE1 hsz
 replace hsz := Nat.le_trans hsz hE1.size
 refine l_q (qai rfl rfl) (l_nil (r_seq (r_region' (l_q (q_load_agg (n := 5) Tryz.isAgg29 Tryz.sizeOf29 rfl ((hb1.cells' (cs' := [_, _, _, _, _]) 0 5 rfl)) rfl rfl) (l_o (o_call Tryz.call66 rfl (rfault6_ret ka kc co er sa sc se ja jc sl ra rc rl _ (hlg.below hB) hbg) rfl ?_))))))
 rintro _ w2 ⟨rfl, hE2⟩
 replace hB := below_ext hB hE2 hsz
 replace hsz := Nat.le_trans hsz hE2.size
 refine l_q (qai rfl rfl) (l_nil (r_ret_ (vs := [.int _ _]) rfl Tryz.func22 rfl (.nil _) ⟨rfl, trivial⟩ ?_))
 exact ⟨rfl, Ext.of_below hB⟩
theorem ready6_ret (ka : Option Addr) (kc : Nat) (co : List Sg) (er : Int) (sa : Option Addr) (sc : Nat) (se : List Int) (ja : Option Addr) (jc : Nat) (sl : List SN) (ra : Option Addr) (rc : Nat) (rl : List RC) (w : World) (hlg : LgAt w ka kc co sa sc se ja jc sl ra rc rl) (hbg : LgBig co er se sl rl) : Ret Tryz.prog 34 [.agg ⟨[.slice ka co.length kc, vint er, .slice sa se.length sc, .slice ja sl.length jc, .slice ra rl.length rc]⟩] w (fun v w' => ∃ b : Bool, v = .bool b ∧ (b = true → faultM (lg co er se sl rl) = 0) ∧ Ext w w') := by
 obtain ⟨⟨hcn, hcl⟩, hen, hsn, ⟨hjn, hjl⟩, hrn, hrl⟩ := id hbg
 have hB := Below.refl w.heap.size w
 have hsz : w.heap.size ≤ w.heap.size := Nat.le_refl _
 refine ret_of_runs (args := [_]) Tryz.func34 rfl (Nat.le_of_ble_eq_true rfl) (by kernel_rfl) (r_seq (r_region' (l_o (o_box rfl rfl rfl ?_))))
 intro b1 w1 hzl1 hzr1 _ hb1 hE1
 have hbs_b1 : w.heap.size ≤ b1 := Nat.le_trans hsz hzl1
 replace hB := below_ext hB hE1 hsz
 replace hsz := Nat.le_trans hsz hE1.size
 refine l_q (qab rfl rfl) (l_nil (r_seq (r_region' (l_q (q_load_agg (n := 5) Tryz.isAgg29 Tryz.sizeOf29 rfl ((hb1.cells' (cs' := [_, _, _, _, _]) 0 5 rfl)) rfl rfl) (l_o (o_call Tryz.call17 rfl (thin6_ret ka kc co er sa sc se ja jc sl ra rc rl _ (hlg.below hB) hbg) rfl ?_))))))
 rintro _ w2 ⟨bb2, rfl, -, hE2⟩
 replace hB := below_ext hB hE2 hsz
 replace hb1 := hb1.ext hE2
 replace hsz := Nat.le_trans hsz hE2.size
 refine l_q (qmb rfl rfl) (l_part 5 rfl (fun hc3 => ?_) (fun hc3 => ?_))
 ·
  refine l_q (q_load_agg (n := 5) Tryz.isAgg29 Tryz.sizeOf29 rfl ((hb1.cells' (cs' := [_, _, _, _, _]) 0 5 rfl)) rfl rfl) (l_o (o_call Tryz.call22 rfl (lfault6_ret ka kc co er sa sc se ja jc sl ra rc rl _ (hlg.below hB) hbg) rfl ?_))
  rintro _ w4 ⟨rfl, hE4⟩
  replace hB := below_ext hB hE4 hsz
  replace hsz := Nat.le_trans hsz hE4.size
  refine l_q (q_eql rfl rfl rfl) (l_q (q_pick_t (v := .bool _) rfl rfl rfl) (l_q (qab rfl rfl) (l_nil (r_ret_ (vs := [.bool _]) rfl Tryz.func34 rfl (.nil _) ⟨rfl, trivial⟩ ?_))))
  exact ⟨_, rfl, (fun h => by first | (cases h; done) | (exact of_decide_eq_true h) | simpa using h), Ext.of_below hB⟩
 ·
  refine l_q (q_skip rfl) (l_q (q_skip rfl) (l_q (q_skip rfl) (l_q (q_pick_f (v := .bool _) rfl rfl rfl) (l_q (qab rfl rfl) (l_nil (r_ret_ (vs := [.bool _]) rfl Tryz.func34 rfl (.nil _) ⟨rfl, trivial⟩ ?_))))))
  exact ⟨_, rfl, (fun h => by first | (cases h; done) | (exact of_decide_eq_true h) | simpa using h), Ext.of_below hB⟩
theorem mreads_ret (ka : Option Addr) (kc : Nat) (co : List Sg) (er : Int) (sa : Option Addr) (sc : Nat) (se : List Int) (ja : Option Addr) (jc : Nat) (sl : List SN) (ra : Option Addr) (rc : Nat) (rl : List RC) (xa : Option Addr) (xc : Nat) (xs : List Int) (s : Sg) (w : World) (hlg : LgAt w ka kc co sa sc se ja jc sl ra rc rl) (hbg : LgBig co er se sl rl) (hx : Row w xa xs.length xc 1 (xs.map vint)) (hxn : xs.length ≤ 2097152) (hf : fault co = 0) (her : er ≤ 3) (hx5 : xs.length ≤ 5) (htx : isText co xs = true) (hs0 : signsFault s [] = 0) : Ret Tryz.prog 69 [.agg ⟨[.slice ka co.length kc, vint er, .slice sa se.length sc, .slice ja sl.length jc, .slice ra rl.length rc]⟩, .slice xa xs.length xc, vstr s] w (fun v w' => v = .bool (readsB (lg co er se sl rl) xs s) ∧ Ext w w') := by
 obtain ⟨⟨hcn, hcl⟩, hen, hsn, ⟨hjn, hjl⟩, hrn, hrl⟩ := id hbg
 have hs40 := sf_len hs0
 have hB := Below.refl w.heap.size w
 have hsz : w.heap.size ≤ w.heap.size := Nat.le_refl _
 refine ret_of_runs (args := [_, _, _]) Tryz.func69 rfl (Nat.le_of_ble_eq_true rfl) (by kernel_rfl) (r_seq (r_region' (l_o (o_box rfl rfl rfl ?_))))
 intro b1 w1 hzl1 hzr1 _ hb1 hE1
 have hbs_b1 : w.heap.size ≤ b1 := Nat.le_trans hsz hzl1
 replace hB := below_ext hB hE1 hsz
 replace hsz := Nat.le_trans hsz hE1.size
 refine l_q (qab rfl rfl) (l_nil (r_seq (r_region' (l_q (q_fieldAddr (o' := 0) rfl fld38_0 rfl) (l_q (q_load_agg (n := 1) Tryz.isAgg34 Tryz.sizeOf34 rfl ((hb1.cells' (cs' := [_]) 0 1 rfl)) rfl rfl) (l_q (qms rfl rfl) (l_o (o_call Tryz.call85 rfl (send_ret _ _ co _ _ xs _ (hlg.rco.below hB) (by omega) (hx.below hB) (by omega) hcl) rfl ?_))))))))
 rintro _ w2 ⟨rfl, hE2⟩
 replace hB := below_ext hB hE2 hsz
 replace hb1 := hb1.ext hE2
 replace hsz := Nat.le_trans hsz hE2.size
 have hsd := send_ok hf hx5 htx
 have hsl := send_len hf hx5 htx
 refine l_q (q_move (v := .tuple _) rfl rfl) (l_q (q_extract (vs := [_, _]) (v := .string _) rfl rfl rfl) (l_q (q_extract (vs := [_, _]) (v := .int _ _) rfl rfl rfl) (l_q (q_assign (v := .string _) rfl rfl) (l_q (qai rfl rfl) (l_nil (r_forget [(2, .string _), (3, .pointer _), (7, .string _)] ⟨rfl, rfl, rfl, trivial⟩ (fun e3 => (r_seq (r_region' (l_q (q_move (v := .string _) rfl rfl) (l_q (q_move (v := .string _) rfl rfl) (l_o (o_call Tryz.call87 rfl (errors_ret (send co xs).1 s _ (by rw [hsd]; omega) (by omega)) rfl ?_)))))))))))))
 rintro _ w4 ⟨rfl, hE4⟩
 replace hB := below_ext hB hE4 hsz
 replace hb1 := hb1.ext hE4
 replace hsz := Nat.le_trans hsz hE4.size
 refine l_q (q_move (v := .tuple _) rfl rfl) (l_q (q_extract (vs := [_, _]) (v := .int _ _) rfl rfl rfl) (l_q (q_extract (vs := [_, _]) (v := .int _ _) rfl rfl rfl) (l_q (qai rfl rfl) (l_q (qai rfl rfl) (l_nil (r_seq (r_region' (l_q (qmi rfl rfl) (l_q (q_eql rfl rfl rfl) (l_q (qmb rfl rfl) (l_part 26 rfl (fun hc5 => ?_) (fun hc5 => ?_))))))))))))
 ·
  replace hc5 := dt hc5
  have g26 := hc5
  refine l_q (qmi rfl rfl) (l_q (q_fieldAddr (o' := 1) rfl fld38_1 rfl) (l_q (q_load Tryz.isAgg3 rfl ((hb1.has (o := 1) rfl)) rfl) (l_q (q_leq rfl rfl rfl) (l_q (q_pick_t (v := .bool _) rfl rfl rfl) (l_q (qab rfl rfl) (l_nil (r_forget [(6, .bool _)] ⟨rfl, trivial⟩ (fun e6 => (r_ret_ (vs := [.bool _]) rfl Tryz.func69 rfl (.nil _) ⟨rfl, trivial⟩ ?_)))))))))
  exact ⟨vbool_eq (by rw [hsd] at *; exact reads_yes hf hx5 htx hs0 her g26), Ext.of_below hB⟩
 ·
  replace hc5 := df hc5
  have g26 := hc5
  refine l_q (q_skip rfl) (l_q (q_skip rfl) (l_q (q_skip rfl) (l_q (q_skip rfl) (l_q (q_pick_f (v := .bool _) rfl rfl rfl) (l_q (qab rfl rfl) (l_nil (r_forget [(6, .bool _)] ⟨rfl, trivial⟩ (fun e7 => (r_ret_ (vs := [.bool _]) rfl Tryz.func69 rfl (.nil _) ⟨rfl, trivial⟩ ?_)))))))))
  exact ⟨vbool_eq (by rw [hsd] at *; exact (reads_no hf hx5 htx hs0 her g26).symm), Ext.of_below hB⟩
theorem mheard_ret (ka : Option Addr) (kc : Nat) (co : List Sg) (er : Int) (sa : Option Addr) (sc : Nat) (se : List Int) (ja : Option Addr) (jc : Nat) (sl : List SN) (ra : Option Addr) (rc : Nat) (rl : List RC) (x : SN) (bf : Int) (w : World) (hse : Row w sa se.length sc 1 (se.map vint)) (hsn : se.length ≤ 2097152) (hst : 0 ≤ x.st ∧ x.st ≤ (se.length : Int) - 1) : Ret Tryz.prog 129 [.agg ⟨[.slice ka co.length kc, vint er, .slice sa se.length sc, .slice ja sl.length jc, .slice ra rl.length rc]⟩, .agg ⟨[vint x.h, vint x.st, .slice x.a x.xs.length x.c]⟩, vint bf] w (fun v w' => v = .bool (heardB se x.pn bf) ∧ Ext w w') := by
 have hB := Below.refl w.heap.size w
 have hsz : w.heap.size ≤ w.heap.size := Nat.le_refl _
 refine ret_of_runs (args := [_, _, _]) Tryz.func129 rfl (Nat.le_of_ble_eq_true rfl) (by kernel_rfl) (r_seq (r_region' (l_o (o_box rfl rfl rfl ?_))))
 intro b1 w1 hzl1 hzr1 _ hb1 hE1
 have hbs_b1 : w.heap.size ≤ b1 := Nat.le_trans hsz hzl1
 replace hB := below_ext hB hE1 hsz
 replace hsz := Nat.le_trans hsz hE1.size
 refine l_o (o_box rfl rfl rfl ?_)
 intro b2 w2 hzl2 hzr2 _ hb2 hE2
 have hbs_b2 : w.heap.size ≤ b2 := Nat.le_trans hsz hzl2
 replace hB := below_ext hB hE2 hsz
 replace hb1 := hb1.ext hE2
 replace hsz := Nat.le_trans hsz hE2.size
 refine l_q (qab rfl rfl) (l_nil (r_seq (r_region' (l_q (q_fieldAddr (o' := 2) rfl fld38_2 rfl) (l_q (q_load Tryz.isAgg25 rfl ((hb1.has (o := 2) rfl)) rfl) (l_q (q_fieldAddr (o' := 1) rfl fld76_1 rfl) (l_q (q_load Tryz.isAgg3 rfl ((hb2.has (o := 1) rfl)) rfl) ?_)))))))
 obtain ⟨b3, o3, ha3, hh3⟩ := (hse.below hB).at1 x.st.toNat ((se).getD x.st.toNat 0) (getD_some (by omega))
 refine l_q (q_indexAddr1 Tryz.underlying25 Tryz.sizeOf3 rfl ha3 rfl (by omega) rfl) (l_q (q_load Tryz.isAgg3 rfl (hh3) rfl) (l_q (qai rfl rfl) (l_nil (r_forget [(2, .int _ _), (4, .pointer _), (7, .int _ _)] ⟨rfl, rfl, rfl, trivial⟩ (fun e4 => (r_seq (r_region' (l_q (qmi rfl rfl) (l_q (q_neq rfl rfl rfl) (l_q (qmb rfl rfl) (l_part 16 rfl (fun hc5 => ?_) (fun hc5 => ?_))))))))))))
 ·
  replace hc5 := df (nt hc5)
  have g16 := hc5
  refine l_q (qmi rfl rfl) (l_q (q_fieldAddr (o' := 0) rfl fld76_0 rfl) (l_q (q_load Tryz.isAgg3 rfl ((hb2.has (o := 0) rfl)) rfl) (l_q (q_leq rfl rfl rfl) (l_q (q_pick_t (v := .bool _) rfl rfl rfl) (l_q (qmb rfl rfl) (l_part 22 rfl (fun hc6 => ?_) (fun hc6 => ?_)))))))
  ·
   replace hc6 := dt hc6
   have g22 := hc6
   refine l_q (q_fieldAddr (o' := 0) rfl fld76_0 rfl) (l_q (q_load Tryz.isAgg3 rfl ((hb2.has (o := 0) rfl)) rfl) (l_q (qmi rfl rfl) (l_q (q_lss rfl rfl rfl) (l_q (q_pick_t (v := .bool _) rfl rfl rfl) (l_q (qab rfl rfl) (l_nil (r_forget [(6, .bool _)] ⟨rfl, trivial⟩ (fun e7 => (r_ret_ (vs := [.bool _]) rfl Tryz.func129 rfl (.nil _) ⟨rfl, trivial⟩ ?_)))))))))
   exact ⟨vbool_eq (by unfold heardB SN.pn; dsimp only; rw [decide_eq_false g16, decide_eq_true g22]; rfl), Ext.of_below hB⟩
  ·
   replace hc6 := dle hc6
   have g22 := hc6
   refine l_q (q_skip rfl) (l_q (q_skip rfl) (l_q (q_skip rfl) (l_q (q_skip rfl) (l_q (q_pick_f (v := .bool _) rfl rfl rfl) (l_q (qab rfl rfl) (l_nil (r_forget [(6, .bool _)] ⟨rfl, trivial⟩ (fun e8 => (r_ret_ (vs := [.bool _]) rfl Tryz.func129 rfl (.nil _) ⟨rfl, trivial⟩ ?_)))))))))
   exact ⟨vbool_eq (by unfold heardB SN.pn; dsimp only; rw [decide_eq_false g16, decide_eq_false (by omega)]; rfl), Ext.of_below hB⟩
 ·
  replace hc5 := dt (nf hc5)
  have g16 := hc5
  refine l_q (q_skip rfl) (l_q (q_skip rfl) (l_q (q_skip rfl) (l_q (q_skip rfl) (l_q (q_pick_f (v := .bool _) rfl rfl rfl) (l_q (qmb rfl rfl) (l_q (q_skip rfl) (l_q (q_skip rfl) (l_q (q_skip rfl) (l_q (q_skip rfl) (l_q (q_pick_f (v := .bool _) rfl rfl rfl) (l_q (qab rfl rfl) (l_nil (r_forget [(6, .bool _)] ⟨rfl, trivial⟩ (fun e9 => (r_ret_ (vs := [.bool _]) rfl Tryz.func129 rfl (.nil _) ⟨rfl, trivial⟩ ?_)))))))))))))))
  exact ⟨vbool_eq (by unfold heardB SN.pn; dsimp only; rw [decide_eq_true (show se.getD x.st.toNat 0 = -1 by omega)]; rfl), Ext.of_below hB⟩
theorem mparts_ret (ka : Option Addr) (kc : Nat) (co : List Sg) (er : Int) (sa : Option Addr) (sc : Nat) (se : List Int) (ja : Option Addr) (jc : Nat) (sl : List SN) (ra : Option Addr) (rc : Nat) (rl : List RC) (bf : Int) (w : World) : Ret Tryz.prog 99 [.agg ⟨[.slice ka co.length kc, vint er, .slice sa se.length sc, .slice ja sl.length jc, .slice ra rl.length rc]⟩, vint bf] w (fun v w' => ∃ b b2, v = .func (.func 128) ⟨[]⟩ ⟨[ptr b 0, ptr b2 0]⟩ ∧ (w.heap.size ≤ b ∧ w.heap.size ≤ b2) ∧ Blk w' b [.slice ka co.length kc, vint er, .slice sa se.length sc, .slice ja sl.length jc, .slice ra rl.length rc] ∧ Blk w' b2 [vint bf] ∧ TyAt w' b 38 ∧ TyAt w' b2 3 ∧ Ext w w') := by
 have hB := Below.refl w.heap.size w
 have hsz : w.heap.size ≤ w.heap.size := Nat.le_refl _
 refine ret_of_runs (args := [_, _]) Tryz.func99 rfl (Nat.le_of_ble_eq_true rfl) (by kernel_rfl) (r_seq (r_region' (l_o (o_boxt rfl rfl rfl ?_))))
 intro b1 w1 hzl1 hzr1 _ hb1 hty_b1 hE1
 have hbs_b1 : w.heap.size ≤ b1 := Nat.le_trans hsz hzl1
 replace hB := below_ext hB hE1 hsz
 replace hsz := Nat.le_trans hsz hE1.size
 refine l_o (o_boxt rfl rfl rfl ?_)
 intro b2 w2 hzl2 hzr2 _ hb2 hty_b2 hE2
 have hbs_b2 : w.heap.size ≤ b2 := Nat.le_trans hsz hzl2
 replace hB := below_ext hB hE2 hsz
 replace hb1 := hb1.ext hE2
 replace hty_b1 := hty_b1.ext hE2
 replace hsz := Nat.le_trans hsz hE2.size
 refine l_q (q_assign (v := .nilFunc) rfl rfl) (l_nil (r_seq (r_region' (l_q (q_makeFunc (v := .func _ ⟨[]⟩ ⟨[_, _]⟩) rfl rfl) (l_q (q_assign (v := .func _ _ _) rfl rfl) (l_nil (r_ret_ (vs := [.func _ _ _]) rfl Tryz.func99 rfl (.nil _) ⟨rfl, trivial⟩ ?_)))))))
 exact ⟨_, _, rfl, ⟨hbs_b1, hbs_b2⟩, hb1, hb2, hty_b1, hty_b2, Ext.of_below hB⟩
theorem code6_ret (a : Option Addr) (cc : Nat) (c : List Sg) (w : World) (hrow : Row w a c.length cc 1 (c.map vstr)) (hcn : c.length ≤ 2097152) : Ret Tryz.prog 63 [.agg ⟨[.slice a c.length cc]⟩] w (fun v w' => ∃ ca cc, v = .agg ⟨[.slice ca (c).length cc]⟩ ∧ w'.ownsRow w.heap.size 9 1 (.slice ca (c).length cc) (c).length ((c).map vstr) ∧ Ext w w') := by
 have hB := Below.refl w.heap.size w
 have hsz : w.heap.size ≤ w.heap.size := Nat.le_refl _
 refine ret_of_runs (args := [_]) Tryz.func63 rfl (Nat.le_of_ble_eq_true rfl) (by kernel_rfl) (r_seq (r_region' (l_o (o_box rfl rfl rfl ?_))))
 intro b1 w1 hzl1 hzr1 _ hb1 hE1
 have hbs_b1 : w.heap.size ≤ b1 := Nat.le_trans hsz hzl1
 replace hB := below_ext hB hE1 hsz
 replace hsz := Nat.le_trans hsz hE1.size
 refine l_o (o_alloc Tryz.zeroValue34 rfl rfl ?_)
 intro b2 w2 hzl2 hzr2 _ hb2 hE2
 have hbs_b2 : w.heap.size ≤ b2 := Nat.le_trans hsz hzl2
 replace hB := below_ext hB hE2 hsz
 replace hb1 := hb1.ext hE2
 replace hsz := Nat.le_trans hsz hE2.size
 refine l_nil (r_seq (r_region' (l_o (o_buildSlice (el := 9) (cs := []) Tryz.underlying22 el9 (by decide) (by kernel_rfl) rfl (by decide) rfl ?_))))
 intro b3 w3 hzl3 hzr3 _ hb3 hE3 ho3
 have hbs_b3 : w.heap.size ≤ b3 := Nat.le_trans hsz hzl3
 replace hB := below_ext hB hE3 hsz
 replace hb1 := hb1.ext hE3
 replace hb2 := hb2.ext hE3
 replace hsz := Nat.le_trans hsz hE3.size
 refine l_q (q_fieldAddr (o' := 0) rfl fld24_0 rfl) (l_q (q_load Tryz.isAgg22 rfl ((hb1.has (o := 0) rfl)) rfl) (l_o (o_append_map (f := vstr) ([]) (c) Tryz.underlying22 el9 rfl rfl ho3 rfl (hrow.below hB) (fun _ => rfl) (by (try simp only [List.length_append, List.length_cons, List.length_nil, List.length_take, List.length_drop, List.length_replicate]); omega) (by omega) rfl ?_)))
 intro a4 c4 w4 hz4 ho4 hG4
 replace hB := below_own hB hG4 ho3 (by omega) hsz
 replace hsz := Nat.le_trans hsz hG4.size
 replace hb2 := hb2.step hG4 (own_ne ho3 (by omega))
 refine l_q (q_build (v := .agg ⟨[.slice a4 (([] ++ c).length) c4]⟩) (fun w => by kernel_rfl) rfl) (l_o (o_store (vs := [.slice a4 (([] ++ c).length) c4]) (cs' := [.slice a4 (([] ++ c).length) c4]) Tryz.sizeOf34 rfl rfl rfl rfl hb2 (Nat.le_of_ble_eq_true rfl) rfl rfl ?_))
 intro w5 hz5 hb2 hG5
 replace hB := below_upd hB hG5 hsz (by omega)
 replace hsz : w.heap.size ≤ w5.heap.size := by rw [hz5]; exact hsz
 replace ho4 := own_updlt ho4 hG5 (by omega)
 refine l_nil (r_ret_ (vs := [.agg _]) rfl Tryz.func63 rfl (.nil _) ⟨⟨_, _, rfl, run_loadVarA Tryz.isAgg34 Tryz.sizeOf34 (hb2.cells' (cs' := [_]) 0 1 rfl) rfl⟩, trivial⟩ ?_)
 exact ⟨_, _, rfl, own_mono ho4 (show w.heap.size ≤ _ by omega), Ext.of_below hB⟩
theorem log6_ret (ka : Option Addr) (kc : Nat) (co : List Sg) (er : Int) (sa : Option Addr) (sc : Nat) (se : List Int) (ja : Option Addr) (jc : Nat) (sl : List SN) (ra : Option Addr) (rc : Nat) (rl : List RC) (w : World) (hlg : LgAt w ka kc co sa sc se ja jc sl ra rc rl) (hbg : LgBig co er se sl rl) : Ret Tryz.prog 20 [.agg ⟨[.slice ka co.length kc, vint er, .slice sa se.length sc, .slice ja sl.length jc, .slice ra rl.length rc]⟩] w (fun v w' => ∃ ka2 kc2 sa2 sc2 ja2 jc2 sl2 ra2 rc2, v = .agg ⟨[.slice ka2 co.length kc2, vint er, .slice sa2 se.length sc2, .slice ja2 (List.length sl2) jc2, .slice ra2 rl.length rc2]⟩ ∧ LgAt w' ka2 kc2 co sa2 sc2 se ja2 jc2 sl2 ra2 rc2 rl ∧ sl2.map SN.pn = sl.map SN.pn ∧ Ext w w') := by
 obtain ⟨⟨hcn, hcl⟩, hen, hsn, ⟨hjn, hjl⟩, hrn, hrl⟩ := id hbg
 have hB := Below.refl w.heap.size w
 have hsz : w.heap.size ≤ w.heap.size := Nat.le_refl _
 refine ret_of_runs (args := [_]) Tryz.func20 rfl (Nat.le_of_ble_eq_true rfl) (by kernel_rfl) (r_seq (r_region' (l_o (o_boxt rfl rfl rfl ?_))))
 intro b1 w1 hzl1 hzr1 _ hb1 hty_b1 hE1
 have hbs_b1 : w.heap.size ≤ b1 := Nat.le_trans hsz hzl1
 replace hB := below_ext hB hE1 hsz
 replace hsz := Nat.le_trans hsz hE1.size
 refine l_o (o_alloct Tryz.zeroValue38 rfl rfl ?_)
 intro b2 w2 hzl2 hzr2 _ hb2 hty_b2 hE2
 have hne_b1_b2 : b1 ≠ b2 := by have := hb1.lt; omega
 have hbs_b2 : w.heap.size ≤ b2 := Nat.le_trans hsz hzl2
 replace hB := below_ext hB hE2 hsz
 replace hb1 := hb1.ext hE2
 replace hty_b1 := hty_b1.ext hE2
 replace hsz := Nat.le_trans hsz hE2.size
 refine l_nil (r_seq (r_ifj (α := Nat × (Option Addr) × Nat × (Option Addr) × Nat) (fun ⟨b3, ca2, cc2, sa2, sc2⟩ e wl => Knows e [(1, ptr b1 0), (2, ptr b2 0), (3, ptr b3 0)] ∧ (w.heap.size ≤ b3) ∧ (b1 ≠ b3) ∧ (b2 ≠ b3) ∧ (Blk wl b3 [.slice ca2 ((co).length) cc2, vint er, .slice sa2 ((se).length) sc2, .slice none 0 0, .slice none 0 0]) ∧ (TyAt wl b3 38) ∧ (wl.ownsRow w.heap.size 9 1 (.slice ca2 ((co).length) cc2) ((co).length) ((co).map vstr)) ∧ (wl.ownsRow w.heap.size 3 1 (.slice sa2 ((se).length) sc2) ((se).length) ((se).map vint)) ∧ (Blk wl b1 [.slice ka co.length kc, vint er, .slice sa se.length sc, .slice ja sl.length jc, .slice ra rl.length rc]) ∧ (TyAt wl b1 29) ∧ (Blk wl b2 [.slice none 0 0, vint 0, .slice none 0 0, .slice none 0 0, .slice none 0 0]) ∧ (TyAt wl b2 38) ∧ (w.heap.size ≤ wl.heap.size) ∧ (Below w.heap.size w wl)) ?_ ?_))
 ·
  rintro ⟨b3, ca2, cc2, sa2, sc2⟩ el3 wl3 ⟨hkn, hbs_b3, hne3a, hne3b, hb3, hty_b3, hoco, hose, hb1, hty_b1, hb2, hty_b2, hsz, hB⟩
  obtain ⟨e3, rfl⟩ := knows_env hkn
  have hne_b1_b3 := hne3a
  have hne_b2_b3 := hne3b
  refine r_seq (r_seq (r_region' (l_q (qai rfl rfl) (l_nil (r_block ?_)))))
  refine r_rounds (α := Nat × (Option Addr) × Nat × (List SN)) (fun ⟨k, oa, oc, M⟩ e wl => Knows e [(1, ptr b1 0), (2, ptr b2 0), (3, ptr b3 0), (4, vint (k : Int))] ∧ (k ≤ sl.length) ∧ (M.map SN.pn = (sl.take k).map SN.pn) ∧ (M.length = k) ∧ (Blk wl b3 [.slice ca2 ((co).length) cc2, vint er, .slice sa2 ((se).length) sc2, .slice oa M.length oc, .slice none 0 0]) ∧ (wl.ownsRow w.heap.size 76 3 (.slice oa M.length oc) M.length (M.flatMap SN.enc)) ∧ (OwnsS wl w.heap.size 3 M) ∧ (Blk wl b1 [.slice ka co.length kc, vint er, .slice sa se.length sc, .slice ja sl.length jc, .slice ra rl.length rc]) ∧ (TyAt wl b1 29) ∧ (Blk wl b2 [.slice none 0 0, vint 0, .slice none 0 0, .slice none 0 0, .slice none 0 0]) ∧ (TyAt wl b2 38) ∧ (TyAt wl b3 38) ∧ (wl.ownsRow w.heap.size 9 1 (.slice ca2 ((co).length) cc2) ((co).length) ((co).map vstr)) ∧ (wl.ownsRow w.heap.size 3 1 (.slice sa2 ((se).length) sc2) ((se).length) ((se).map vint)) ∧ (w.heap.size ≤ wl.heap.size) ∧ (Below w.heap.size w wl)) (fun ⟨k, oa, oc, M⟩ => sl.length - k) (0, none, 0, []) ?_ ?_
  ·
   exact ⟨⟨rfl, rfl, rfl, rfl, trivial⟩, (Nat.zero_le _), rfl, rfl, hb3, (World.ownsRow_nil _ _ _ _), (OwnsS.nil _ _ _), hb1, hty_b1, hb2, hty_b2, hty_b3, hoco, hose, hsz, hB⟩
  ·
   rintro ⟨k, oa, oc, M⟩ el4 wl4 ⟨hkn, hk, hM, hMl, hb3, hop, hoi, hb1, hty_b1, hb2, hty_b2, hty_b3, hoco, hose, hsz, hB⟩ ih4
   obtain ⟨e4, rfl⟩ := knows_env hkn
   refine r_seq (r_seq (r_region' (l_q (qmi rfl rfl) (l_q (q_fieldAddr (o' := 3) rfl fld29_3 rfl) (l_q (q_load Tryz.isAgg26 rfl ((hb1.has (o := 3) rfl)) rfl) (l_q (q_len rfl Tryz.underlying26 rfl rfl) (l_q (q_lss rfl rfl rfl) (l_nil (r_cond rfl (fun hc5 => ?_) (fun hc5 => ?_))))))))))
   ·
    replace hc5 := dt hc5
    have hks : k < sl.length := by omega
    have hjx := hjl _ (getD_lt (d := sn00) hks)
    refine r_skip (r_seq (r_block (r_seq (r_region' (l_q (q_fieldAddr (o' := 3) rfl fld29_3 rfl) (l_q (q_load Tryz.isAgg26 rfl ((hb1.has (o := 3) rfl)) rfl) (l_q (qmi rfl rfl) ?_)))))))
    obtain ⟨b6, o6, ha6, hh6⟩ := (hlg.rsl.below hB).at (by decide) k (by omega)
    refine l_q (q_indexAddr Tryz.underlying26 Tryz.sizeOf69 rfl ha6 rfl (by omega) rfl) (l_q (q_load_agg (cs := [vint (((sl).getD k sn00).h), vint (((sl).getD k sn00).st), .slice (((sl).getD k sn00).a) (((sl).getD k sn00).xs.length) (((sl).getD k sn00).c)]) (n := 3) Tryz.isAgg69 Tryz.sizeOf69 rfl ((cells_cast (wide_at SN.len sn00 _ _ (by omega)) hh6)) rfl rfl) (l_o (o_alloct Tryz.zeroValue69 rfl rfl ?_)))
    intro b7 w7 hzl7 hzr7 _ hb7 hty_b7 hE7
    have hne_b1_b7 : b1 ≠ b7 := by have := hb1.lt; omega
    have hne_b2_b7 : b2 ≠ b7 := by have := hb2.lt; omega
    have hne_b3_b7 : b3 ≠ b7 := by have := hb3.lt; omega
    have hbs_b7 : w.heap.size ≤ b7 := Nat.le_trans hsz hzl7
    replace hB := below_ext hB hE7 hsz
    replace hb1 := hb1.ext hE7
    replace hty_b1 := hty_b1.ext hE7
    replace hb2 := hb2.ext hE7
    replace hty_b2 := hty_b2.ext hE7
    replace hb3 := hb3.ext hE7
    replace hty_b3 := hty_b3.ext hE7
    replace hoco := own_ext hoco hE7
    replace hose := own_ext hose hE7
    replace hop := own_ext hop hE7
    replace hoi := hoi.ext hE7
    replace hsz := Nat.le_trans hsz hE7.size
    refine l_o (o_storet (vs := [vint (((sl).getD k sn00).h), vint (((sl).getD k sn00).st), .slice (((sl).getD k sn00).a) (((sl).getD k sn00).xs.length) (((sl).getD k sn00).c)]) (cs' := [vint (((sl).getD k sn00).h), vint (((sl).getD k sn00).st), .slice (((sl).getD k sn00).a) (((sl).getD k sn00).xs.length) (((sl).getD k sn00).c)]) Tryz.sizeOf69 rfl rfl rfl rfl hb7 (Nat.le_of_ble_eq_true rfl) rfl rfl ?_)
    intro w8 hz8 hb7 hT8 hG8
    replace hB := below_upd hB hG8 hsz (by omega)
    replace hsz : w.heap.size ≤ w8.heap.size := by rw [hz8]; exact hsz
    replace hb1 := hb1.upd hG8 (by omega)
    replace hty_b1 := hty_b1.upd hG8 (by omega)
    replace hb2 := hb2.upd hG8 (by omega)
    replace hty_b2 := hty_b2.upd hG8 (by omega)
    replace hb3 := hb3.upd hG8 (by omega)
    replace hty_b3 := hty_b3.upd hG8 (by omega)
    replace hoco := own_ty_upd hoco hty_b7 hG8 (by decide)
    replace hose := own_ty_upd hose hty_b7 hG8 (by decide)
    replace hop := own_ty_upd hop hty_b7 hG8 (by decide)
    replace hoi := OwnsS.tyupd hoi hty_b7 hG8 (by decide)
    refine l_nil (r_forget [(1, .pointer _), (2, .pointer _), (3, .pointer _), (4, .int _ _), (5, .pointer _)] ⟨rfl, rfl, rfl, rfl, rfl, trivial⟩ (fun e9 => (r_draw ext_refl' ext_trans' [0, 1, 2, 3, 4, 5, 6, 7, 8, 9, 10, 11, 12, 13] [8, 10, 11, 13, 1011, 1013] 8 (by kernel_rfl) (by kernel_rfl) ?_)))
    intro w10 _ hE10
    replace hB := below_ext hB hE10 hsz
    replace hb1 := hb1.ext hE10
    replace hty_b1 := hty_b1.ext hE10
    replace hb2 := hb2.ext hE10
    replace hty_b2 := hty_b2.ext hE10
    replace hb3 := hb3.ext hE10
    replace hty_b3 := hty_b3.ext hE10
    replace hoco := own_ext hoco hE10
    replace hose := own_ext hose hE10
    replace hop := own_ext hop hE10
    replace hoi := hoi.ext hE10
    replace hb7 := hb7.ext hE10
    replace hsz := Nat.le_trans hsz hE10.size
    refine m_q rfl rfl (fun w' hC' => q_fieldAddr (o' := 3) rfl fld38_3 rfl) (m_q rfl rfl (fun w' hC' => q_load Tryz.isAgg35 rfl (((hb3.has (o := 3) rfl).ext hC')) rfl) (m_q rfl rfl (fun w' hC' => q_fieldAddr (o' := 0) rfl fld69_0 rfl) (m_q rfl rfl (fun w' hC' => q_load Tryz.isAgg3 rfl (((hb7.has (o := 0) rfl).ext hC')) rfl) (m_q rfl rfl (fun w' hC' => q_fieldAddr (o' := 1) rfl fld69_1 rfl) (m_q rfl rfl (fun w' hC' => q_load Tryz.isAgg3 rfl (((hb7.has (o := 1) rfl).ext hC')) rfl) (m_q rfl rfl (fun w' hC' => q_fieldAddr (o' := 2) rfl fld69_2 rfl) (m_q rfl rfl (fun w' hC' => q_load Tryz.isAgg25 rfl (((hb7.has (o := 2) rfl).ext hC')) rfl) (m_o rfl rfl (o_call Tryz.call39 rfl (list6_ret _ _ (((sl).getD k sn00).xs) _ ((RowsS.get (hlg.rslr) (i := k) (by omega)).below hB) (by omega)) rfl ?_)))))))))
    rintro _ w11 ⟨a11_0, c11_0, rfl, ho11_0, hE11⟩
    replace ho11_0 := own_mono ho11_0 (show w.heap.size ≤ _ by omega)
    refine ⟨hE11, ?_⟩
    replace hB := below_ext hB hE11 hsz
    replace hb1 := hb1.ext hE11
    replace hty_b1 := hty_b1.ext hE11
    replace hb2 := hb2.ext hE11
    replace hty_b2 := hty_b2.ext hE11
    replace hb3 := hb3.ext hE11
    replace hty_b3 := hty_b3.ext hE11
    replace hoco := own_ext hoco hE11
    replace hose := own_ext hose hE11
    replace hop := own_ext hop hE11
    replace hoi := hoi.ext hE11
    replace hb7 := hb7.ext hE11
    replace hsz := Nat.le_trans hsz hE11.size
    refine m_q rfl rfl (fun w' hC' => q_build (v := .agg ⟨[vint (((sl).getD k sn00).h), vint (((sl).getD k sn00).st), .slice a11_0 (((((sl).getD k sn00).xs)).length) c11_0]⟩) (fun w => by kernel_rfl) rfl) (m_o rfl rfl (o_buildSlice (el := 76) (cs := [vint (((sl).getD k sn00).h), vint (((sl).getD k sn00).st), .slice a11_0 (((((sl).getD k sn00).xs)).length) c11_0]) Tryz.underlying35 el76 (by decide) (by kernel_rfl) rfl (by decide) rfl ?_))
    intro b12 w12 hzl12 hzr12 _ hb12 hE12 ho12
    refine ⟨hE12, ?_⟩
    have hne_b1_b12 : b1 ≠ b12 := by have := hb1.lt; omega
    have hne_b2_b12 : b2 ≠ b12 := by have := hb2.lt; omega
    have hne_b3_b12 : b3 ≠ b12 := by have := hb3.lt; omega
    have hne_b7_b12 : b7 ≠ b12 := by have := hb7.lt; omega
    have hbs_b12 : w.heap.size ≤ b12 := Nat.le_trans hsz hzl12
    replace hB := below_ext hB hE12 hsz
    replace hb1 := hb1.ext hE12
    replace hty_b1 := hty_b1.ext hE12
    replace hb2 := hb2.ext hE12
    replace hty_b2 := hty_b2.ext hE12
    replace hb3 := hb3.ext hE12
    replace hty_b3 := hty_b3.ext hE12
    replace hoco := own_ext hoco hE12
    replace hose := own_ext hose hE12
    replace hop := own_ext hop hE12
    replace hoi := hoi.ext hE12
    replace ho11_0 := own_ext ho11_0 hE12
    replace hsz := Nat.le_trans hsz hE12.size
    refine m_last rfl rfl rfl (o_append_wide SN.one (M) (([⟨((sl).getD k sn00).h, ((sl).getD k sn00).st, a11_0, c11_0, (((sl).getD k sn00).xs)⟩] : List SN)) Tryz.underlying35 el76 rfl rfl hop rfl (Row.of_owns ho12) (by (try simp only [List.length_append, List.length_cons, List.length_nil, List.length_take, List.length_drop, List.length_replicate]); omega) (by omega) rfl ?_)
    intro a14 c14 w14 hz14 ho14 hG14
    replace hB := below_own hB hG14 hop (by omega) hsz
    replace hsz := Nat.le_trans hsz hG14.size
    replace hb1 := hb1.step hG14 (own_ty_ne hop hty_b1 (by decide))
    replace hb2 := hb2.step hG14 (own_ty_ne hop hty_b2 (by decide))
    replace hb3 := hb3.step hG14 (own_ty_ne hop hty_b3 (by decide))
    replace hoco := own_kept hoco hop (by decide) hG14
    replace hose := own_kept hose hop (by decide) hG14
    replace hoi := hoi.kept hop (by decide) hG14
    replace ho11_0 := own_kept ho11_0 hop (by decide) hG14
    replace hty_b1 := TyAt.own hty_b1 hop hG14 (by decide)
    replace hty_b2 := TyAt.own hty_b2 hop hG14 (by decide)
    replace hty_b3 := TyAt.own hty_b3 hop hG14 (by decide)
    refine m_q rfl rfl (fun w' hC' => q_fieldAddr (o' := 3) rfl fld38_3 rfl) (m_last rfl rfl rfl (o_storet (vs := [.slice a14 ((M ++ ([⟨((sl).getD k sn00).h, ((sl).getD k sn00).st, a11_0, c11_0, (((sl).getD k sn00).xs)⟩] : List SN)).length) c14]) (cs' := [.slice ca2 ((co).length) cc2, vint er, .slice sa2 ((se).length) sc2, .slice a14 ((M ++ ([⟨((sl).getD k sn00).h, ((sl).getD k sn00).st, a11_0, c11_0, (((sl).getD k sn00).xs)⟩] : List SN)).length) c14, .slice none 0 0]) Tryz.sizeOf35 rfl rfl rfl rfl hb3 (Nat.le_of_ble_eq_true rfl) rfl rfl ?_))
    intro w15 hz15 hb3 hT15 hG15
    replace hB := below_upd hB hG15 hsz (by omega)
    replace hsz : w.heap.size ≤ w15.heap.size := by rw [hz15]; exact hsz
    replace hb1 := hb1.upd hG15 (by omega)
    replace hty_b1 := hty_b1.upd hG15 (by omega)
    replace hb2 := hb2.upd hG15 (by omega)
    replace hty_b2 := hty_b2.upd hG15 (by omega)
    replace hoco := own_ty_upd hoco hty_b3 hG15 (by decide)
    replace hose := own_ty_upd hose hty_b3 hG15 (by decide)
    replace hoi := OwnsS.tyupd hoi hty_b3 hG15 (by decide)
    replace ho11_0 := own_ty_upd ho11_0 hty_b3 hG15 (by decide)
    replace ho14 := own_ty_upd ho14 hty_b3 hG15 (by decide)
    replace hty_b3 := hT15 _ hty_b3
    refine m_nil (r_forget [(1, .pointer _), (2, .pointer _), (3, .pointer _), (4, .int _ _)] ⟨rfl, rfl, rfl, rfl, trivial⟩ (fun e16 => (r_inBlock (r_region' (l_q (qmi rfl rfl) (l_q (q_add rfl rfl (by omega) rfl) (l_q (qai rfl rfl) (l_nil ?_))))))))
    exact ih4 (k + 1, a14, c14, M ++ ([⟨((sl).getD k sn00).h, ((sl).getD k sn00).st, a11_0, c11_0, (((sl).getD k sn00).xs)⟩] : List SN)) _ _ ⟨⟨rfl, rfl, rfl, (vint_eq (by omega)), trivial⟩, (by omega), (sn_snoc hks hM), (by rw [List.length_append, hMl]; rfl), hb3, ho14, (OwnsS.snoc hoi (own_mono ho11_0 (by omega))), hb1, hty_b1, hb2, hty_b2, hty_b3, hoco, hose, hsz, hB⟩ (by first | omega | (dsimp only; omega))
   ·
    replace hc5 := dlt hc5
    refine r_exit rfl (r_seq (r_seq (r_region' (l_q (qai rfl rfl) (l_nil (r_block ?_))))))
    refine r_rounds (α := Nat × (Option Addr) × Nat × (List RC)) (fun ⟨k2, qa, qc, N⟩ e wl => Knows e [(1, ptr b1 0), (2, ptr b2 0), (3, ptr b3 0), (6, vint (k2 : Int))] ∧ (k2 ≤ rl.length) ∧ (N = rl.take k2) ∧ (N.length = k2) ∧ (Blk wl b3 [.slice ca2 ((co).length) cc2, vint er, .slice sa2 ((se).length) sc2, .slice oa M.length oc, .slice qa N.length qc]) ∧ (wl.ownsRow w.heap.size 75 3 (.slice qa N.length qc) N.length (N.flatMap RC.enc)) ∧ (Blk wl b1 [.slice ka co.length kc, vint er, .slice sa se.length sc, .slice ja sl.length jc, .slice ra rl.length rc]) ∧ (TyAt wl b1 29) ∧ (Blk wl b2 [.slice none 0 0, vint 0, .slice none 0 0, .slice none 0 0, .slice none 0 0]) ∧ (TyAt wl b2 38) ∧ (TyAt wl b3 38) ∧ (wl.ownsRow w.heap.size 9 1 (.slice ca2 ((co).length) cc2) ((co).length) ((co).map vstr)) ∧ (wl.ownsRow w.heap.size 3 1 (.slice sa2 ((se).length) sc2) ((se).length) ((se).map vint)) ∧ (wl.ownsRow w.heap.size 76 3 (.slice oa M.length oc) M.length (M.flatMap SN.enc)) ∧ (OwnsS wl w.heap.size 3 M) ∧ (w.heap.size ≤ wl.heap.size) ∧ (Below w.heap.size w wl)) (fun ⟨k2, qa, qc, N⟩ => rl.length - k2) (0, none, 0, []) ?_ ?_
    ·
     exact ⟨⟨rfl, rfl, rfl, rfl, trivial⟩, (Nat.zero_le _), rfl, rfl, hb3, (World.ownsRow_nil _ _ _ _), hb1, hty_b1, hb2, hty_b2, hty_b3, hoco, hose, hop, hoi, hsz, hB⟩
    ·
     rintro ⟨k2, qa, qc, N⟩ el17 wl17 ⟨hkn, hk2, hN, hNl, hb3, hor, hb1, hty_b1, hb2, hty_b2, hty_b3, hoco, hose, hop, hoi, hsz, hB⟩ ih17
     obtain ⟨e17, rfl⟩ := knows_env hkn
     refine r_seq (r_seq (r_region' (l_q (qmi rfl rfl) (l_q (q_fieldAddr (o' := 4) rfl fld29_4 rfl) (l_q (q_load Tryz.isAgg27 rfl ((hb1.has (o := 4) rfl)) rfl) (l_q (q_len rfl Tryz.underlying27 rfl rfl) (l_q (q_lss rfl rfl rfl) (l_nil (r_cond rfl (fun hc18 => ?_) (fun hc18 => ?_))))))))))
     ·
      replace hc18 := dt hc18
      have hkr : k2 < rl.length := by omega
      refine r_skip (r_seq (r_block (r_seq (r_region' (l_q (q_fieldAddr (o' := 4) rfl fld29_4 rfl) (l_q (q_load Tryz.isAgg27 rfl ((hb1.has (o := 4) rfl)) rfl) (l_q (qmi rfl rfl) ?_)))))))
      obtain ⟨b19, o19, ha19, hh19⟩ := (hlg.rrl.below hB).at (by decide) k2 (by omega)
      refine l_q (q_indexAddr Tryz.underlying27 Tryz.sizeOf61 rfl ha19 rfl (by omega) rfl) (l_q (q_load_agg (cs := [vint (((rl).getD k2 rcd0).h), vint (((rl).getD k2 rcd0).st), vstr (((rl).getD k2 rcd0).s)]) (n := 3) Tryz.isAgg61 Tryz.sizeOf61 rfl ((cells_cast (wide_at RC.len rcd0 _ _ (by omega)) hh19)) rfl rfl) (l_o (o_alloct Tryz.zeroValue61 rfl rfl ?_)))
      intro b20 w20 hzl20 hzr20 _ hb20 hty_b20 hE20
      have hne_b1_b20 : b1 ≠ b20 := by have := hb1.lt; omega
      have hne_b2_b20 : b2 ≠ b20 := by have := hb2.lt; omega
      have hne_b3_b20 : b3 ≠ b20 := by have := hb3.lt; omega
      have hbs_b20 : w.heap.size ≤ b20 := Nat.le_trans hsz hzl20
      replace hB := below_ext hB hE20 hsz
      replace hb1 := hb1.ext hE20
      replace hty_b1 := hty_b1.ext hE20
      replace hb2 := hb2.ext hE20
      replace hty_b2 := hty_b2.ext hE20
      replace hb3 := hb3.ext hE20
      replace hty_b3 := hty_b3.ext hE20
      replace hoco := own_ext hoco hE20
      replace hose := own_ext hose hE20
      replace hop := own_ext hop hE20
      replace hoi := hoi.ext hE20
      replace hor := own_ext hor hE20
      replace hsz := Nat.le_trans hsz hE20.size
      refine l_o (o_storet (vs := [vint (((rl).getD k2 rcd0).h), vint (((rl).getD k2 rcd0).st), vstr (((rl).getD k2 rcd0).s)]) (cs' := [vint (((rl).getD k2 rcd0).h), vint (((rl).getD k2 rcd0).st), vstr (((rl).getD k2 rcd0).s)]) Tryz.sizeOf61 rfl rfl rfl rfl hb20 (Nat.le_of_ble_eq_true rfl) rfl rfl ?_)
      intro w21 hz21 hb20 hT21 hG21
      replace hB := below_upd hB hG21 hsz (by omega)
      replace hsz : w.heap.size ≤ w21.heap.size := by rw [hz21]; exact hsz
      replace hb1 := hb1.upd hG21 (by omega)
      replace hty_b1 := hty_b1.upd hG21 (by omega)
      replace hb2 := hb2.upd hG21 (by omega)
      replace hty_b2 := hty_b2.upd hG21 (by omega)
      replace hb3 := hb3.upd hG21 (by omega)
      replace hty_b3 := hty_b3.upd hG21 (by omega)
      replace hoco := own_ty_upd hoco hty_b20 hG21 (by decide)
      replace hose := own_ty_upd hose hty_b20 hG21 (by decide)
      replace hop := own_ty_upd hop hty_b20 hG21 (by decide)
      replace hoi := OwnsS.tyupd hoi hty_b20 hG21 (by decide)
      replace hor := own_ty_upd hor hty_b20 hG21 (by decide)
      refine l_nil (r_forget [(1, .pointer _), (2, .pointer _), (3, .pointer _), (6, .int _ _), (7, .pointer _)] ⟨rfl, rfl, rfl, rfl, rfl, trivial⟩ (fun e22 => (r_region' (l_q (q_fieldAddr (o' := 4) rfl fld38_4 rfl) (l_q (q_load Tryz.isAgg36 rfl ((hb3.has (o := 4) rfl)) rfl) (l_q (q_fieldAddr (o' := 0) rfl fld61_0 rfl) (l_q (q_load Tryz.isAgg3 rfl ((hb20.has (o := 0) rfl)) rfl) (l_q (q_fieldAddr (o' := 1) rfl fld61_1 rfl) (l_q (q_load Tryz.isAgg3 rfl ((hb20.has (o := 1) rfl)) rfl) (l_q (q_fieldAddr (o' := 2) rfl fld61_2 rfl) (l_q (q_load Tryz.isAgg9 rfl ((hb20.has (o := 2) rfl)) rfl) (l_q (q_build (v := .agg ⟨[vint (((rl).getD k2 rcd0).h), vint (((rl).getD k2 rcd0).st), vstr (((rl).getD k2 rcd0).s)]⟩) (fun w => by kernel_rfl) rfl) ?_))))))))))))
      refine l_o (o_buildSlice (el := 75) (cs := [vint (((rl).getD k2 rcd0).h), vint (((rl).getD k2 rcd0).st), vstr (((rl).getD k2 rcd0).s)]) Tryz.underlying36 el75 (by decide) (by kernel_rfl) rfl (by decide) rfl ?_)
      intro b23 w23 hzl23 hzr23 _ hb23 hE23 ho23
      have hne_b1_b23 : b1 ≠ b23 := by have := hb1.lt; omega
      have hne_b2_b23 : b2 ≠ b23 := by have := hb2.lt; omega
      have hne_b3_b23 : b3 ≠ b23 := by have := hb3.lt; omega
      have hne_b20_b23 : b20 ≠ b23 := by have := hb20.lt; omega
      have hbs_b23 : w.heap.size ≤ b23 := Nat.le_trans hsz hzl23
      replace hB := below_ext hB hE23 hsz
      replace hb1 := hb1.ext hE23
      replace hty_b1 := hty_b1.ext hE23
      replace hb2 := hb2.ext hE23
      replace hty_b2 := hty_b2.ext hE23
      replace hb3 := hb3.ext hE23
      replace hty_b3 := hty_b3.ext hE23
      replace hoco := own_ext hoco hE23
      replace hose := own_ext hose hE23
      replace hop := own_ext hop hE23
      replace hoi := hoi.ext hE23
      replace hor := own_ext hor hE23
      replace hsz := Nat.le_trans hsz hE23.size
      refine l_o (o_append_wide RC.one (N) (([⟨((rl).getD k2 rcd0).h, ((rl).getD k2 rcd0).st, ((rl).getD k2 rcd0).s⟩] : List RC)) Tryz.underlying36 el75 rfl rfl hor rfl (Row.of_owns ho23) (by (try simp only [List.length_append, List.length_cons, List.length_nil, List.length_take, List.length_drop, List.length_replicate]); omega) (by omega) rfl ?_)
      intro a25 c25 w25 hz25 ho25 hG25
      replace hB := below_own hB hG25 hor (by omega) hsz
      replace hsz := Nat.le_trans hsz hG25.size
      replace hb1 := hb1.step hG25 (own_ty_ne hor hty_b1 (by decide))
      replace hb2 := hb2.step hG25 (own_ty_ne hor hty_b2 (by decide))
      replace hb3 := hb3.step hG25 (own_ty_ne hor hty_b3 (by decide))
      replace hoco := own_kept hoco hor (by decide) hG25
      replace hose := own_kept hose hor (by decide) hG25
      replace hop := own_kept hop hor (by decide) hG25
      replace hoi := hoi.kept hor (by decide) hG25
      replace hty_b1 := TyAt.own hty_b1 hor hG25 (by decide)
      replace hty_b2 := TyAt.own hty_b2 hor hG25 (by decide)
      replace hty_b3 := TyAt.own hty_b3 hor hG25 (by decide)
      refine l_q (q_fieldAddr (o' := 4) rfl fld38_4 rfl) (l_o (o_storet (vs := [.slice a25 ((N ++ ([⟨((rl).getD k2 rcd0).h, ((rl).getD k2 rcd0).st, ((rl).getD k2 rcd0).s⟩] : List RC)).length) c25]) (cs' := [.slice ca2 ((co).length) cc2, vint er, .slice sa2 ((se).length) sc2, .slice oa M.length oc, .slice a25 ((N ++ ([⟨((rl).getD k2 rcd0).h, ((rl).getD k2 rcd0).st, ((rl).getD k2 rcd0).s⟩] : List RC)).length) c25]) Tryz.sizeOf36 rfl rfl rfl rfl hb3 (Nat.le_of_ble_eq_true rfl) rfl rfl ?_))
      intro w26 hz26 hb3 hT26 hG26
      replace hB := below_upd hB hG26 hsz (by omega)
      replace hsz : w.heap.size ≤ w26.heap.size := by rw [hz26]; exact hsz
      replace hb1 := hb1.upd hG26 (by omega)
      replace hty_b1 := hty_b1.upd hG26 (by omega)
      replace hb2 := hb2.upd hG26 (by omega)
      replace hty_b2 := hty_b2.upd hG26 (by omega)
      replace hoco := own_ty_upd hoco hty_b3 hG26 (by decide)
      replace hose := own_ty_upd hose hty_b3 hG26 (by decide)
      replace hop := own_ty_upd hop hty_b3 hG26 (by decide)
      replace hoi := OwnsS.tyupd hoi hty_b3 hG26 (by decide)
      replace ho25 := own_ty_upd ho25 hty_b3 hG26 (by decide)
      replace hty_b3 := hT26 _ hty_b3
      refine l_nil (r_forget [(1, .pointer _), (2, .pointer _), (3, .pointer _), (6, .int _ _)] ⟨rfl, rfl, rfl, rfl, trivial⟩ (fun e27 => (r_inBlock (r_region' (l_q (qmi rfl rfl) (l_q (q_add rfl rfl (by omega) rfl) (l_q (qai rfl rfl) (l_nil ?_))))))))
      exact ih17 (k2 + 1, a25, c25, N ++ ([⟨((rl).getD k2 rcd0).h, ((rl).getD k2 rcd0).st, ((rl).getD k2 rcd0).s⟩] : List RC)) _ _ ⟨⟨rfl, rfl, rfl, (vint_eq (by omega)), trivial⟩, (by omega), (by rw [hN]; exact (rc_take hkr)), (by rw [List.length_append, hNl]; rfl), hb3, ho25, hb1, hty_b1, hb2, hty_b2, hty_b3, hoco, hose, hop, hoi, hsz, hB⟩ (by first | omega | (dsimp only; omega))
     ·
      replace hc18 := dlt hc18
      refine r_exit rfl (r_seq (r_region' (l_q (q_load_agg (n := 5) Tryz.isAgg38 Tryz.sizeOf38 rfl ((hb3.cells' (cs' := [_, _, _, _, _]) 0 5 rfl)) rfl rfl) (l_o (o_storet (vs := [.slice ca2 ((co).length) cc2, vint er, .slice sa2 ((se).length) sc2, .slice oa M.length oc, .slice qa N.length qc]) (cs' := [.slice ca2 ((co).length) cc2, vint er, .slice sa2 ((se).length) sc2, .slice oa M.length oc, .slice qa N.length qc]) Tryz.sizeOf38 rfl rfl rfl rfl hb2 (Nat.le_of_ble_eq_true rfl) rfl rfl ?_)))))
      intro w28 hz28 hb2 hT28 hG28
      replace hB := below_upd hB hG28 hsz (by omega)
      replace hsz : w.heap.size ≤ w28.heap.size := by rw [hz28]; exact hsz
      replace hb1 := hb1.upd hG28 (by omega)
      replace hty_b1 := hty_b1.upd hG28 (by omega)
      replace hoco := own_ty_upd hoco hty_b2 hG28 (by decide)
      replace hose := own_ty_upd hose hty_b2 hG28 (by decide)
      replace hop := own_ty_upd hop hty_b2 hG28 (by decide)
      replace hoi := OwnsS.tyupd hoi hty_b2 hG28 (by decide)
      replace hor := own_ty_upd hor hty_b2 hG28 (by decide)
      replace hty_b2 := hT28 _ hty_b2
      refine l_nil (r_ret_ (vs := [.agg _]) rfl Tryz.func20 rfl (.nil _) ⟨⟨_, _, rfl, run_loadVarA Tryz.isAgg38 Tryz.sizeOf38 (hb2.cells' (cs' := [_, _, _, _, _]) 0 5 rfl) rfl⟩, trivial⟩ ?_)
      obtain rfl : k2 = rl.length := by omega
      obtain rfl : k = sl.length := by omega
      rw [List.take_length] at hN hM
      subst hN
      exact ⟨ca2, cc2, sa2, sc2, oa, oc, M, qa, qc, rfl, ⟨Row.of_owns hoco, Row.of_owns hose, Row.of_owns hop, hoi.rows, Row.of_owns hor⟩, hM, Ext.of_below hB⟩
 · intro hj3
   refine r_draw3 ext_refl' ext_trans' (.op 0 (.op 1 (.op 3 (.op 4 (.op 5 (.op 6 (.fork 9 (.op 2 (.op 7 (.op 8 (.op 10 (.done))))) (.op 2 (.fork 9 (.op 7 (.op 8 (.op 10 (.done)))) (.op 7 (.op 8 (.op 9 (.op 10 (.done)))))))))))))) [2, 7, 9, 10, 1010] 8 (by kernel_rfl) (by kernel_rfl) ?_
   intro w29 _ hE29
   replace hB := below_ext hB hE29 hsz
   replace hb1 := hb1.ext hE29
   replace hty_b1 := hty_b1.ext hE29
   replace hb2 := hb2.ext hE29
   replace hty_b2 := hty_b2.ext hE29
   replace hsz := Nat.le_trans hsz hE29.size
   refine m_q3 rfl rfl (fun w' hC' => q_fieldAddr (o' := 0) rfl fld29_0 rfl) (m_q3 rfl rfl (fun w' hC' => q_load_agg (n := 1) Tryz.isAgg24 Tryz.sizeOf24 rfl (((hb1.cells' (cs' := [_]) 0 1 rfl).ext hC')) rfl rfl) (m_q3 rfl rfl (fun w' hC' => q_fieldAddr (o' := 1) rfl fld29_1 rfl) (m_q3 rfl rfl (fun w' hC' => q_load Tryz.isAgg3 rfl (((hb1.has (o := 1) rfl).ext hC')) rfl) (m_q3 rfl rfl (fun w' hC' => q_fieldAddr (o' := 2) rfl fld29_2 rfl) (m_q3 rfl rfl (fun w' hC' => q_load Tryz.isAgg25 rfl (((hb1.has (o := 2) rfl).ext hC')) rfl) (m_fork3 ?_ ?_))))))
   ·
    refine m_o3 rfl rfl (o_alloct Tryz.zeroValue38 rfl rfl ?_)
    intro b30 w30 hzl30 hzr30 _ hb30 hty_b30 hE30
    refine ⟨hE30, ?_⟩
    have hne_b1_b30 : b1 ≠ b30 := by have := hb1.lt; omega
    have hne_b2_b30 : b2 ≠ b30 := by have := hb2.lt; omega
    have hbs_b30 : w.heap.size ≤ b30 := Nat.le_trans hsz hzl30
    replace hB := below_ext hB hE30 hsz
    replace hb1 := hb1.ext hE30
    replace hty_b1 := hty_b1.ext hE30
    replace hb2 := hb2.ext hE30
    replace hty_b2 := hty_b2.ext hE30
    replace hsz := Nat.le_trans hsz hE30.size
    refine m_o3 rfl rfl (o_call Tryz.call63 rfl (code6_ret _ _ co _ (hlg.rco.below hB) (by omega)) rfl ?_)
    rintro _ w31 ⟨ca31, cc31, rfl, hrc31, hE31⟩
    replace hrc31 := own_mono hrc31 (show w.heap.size ≤ _ by omega)
    refine ⟨hE31, ?_⟩
    replace hB := below_ext hB hE31 hsz
    replace hb1 := hb1.ext hE31
    replace hty_b1 := hty_b1.ext hE31
    replace hb2 := hb2.ext hE31
    replace hty_b2 := hty_b2.ext hE31
    replace hb30 := hb30.ext hE31
    replace hty_b30 := hty_b30.ext hE31
    replace hsz := Nat.le_trans hsz hE31.size
    refine m_o3 rfl rfl (o_call Tryz.call39 rfl (list6_ret _ _ se _ (hlg.rse.below hB) (by omega)) rfl ?_)
    rintro _ w32 ⟨a32_0, c32_0, rfl, ho32_0, hE32⟩
    replace ho32_0 := own_mono ho32_0 (show w.heap.size ≤ _ by omega)
    refine ⟨hE32, ?_⟩
    replace hB := below_ext hB hE32 hsz
    replace hb1 := hb1.ext hE32
    replace hty_b1 := hty_b1.ext hE32
    replace hb2 := hb2.ext hE32
    replace hty_b2 := hty_b2.ext hE32
    replace hb30 := hb30.ext hE32
    replace hty_b30 := hty_b30.ext hE32
    replace hrc31 := own_ext hrc31 hE32
    replace hsz := Nat.le_trans hsz hE32.size
    refine m_q3 rfl rfl (fun w' hC' => q_build (v := .agg ⟨[.slice ca31 ((co).length) cc31, vint er, .slice a32_0 ((se).length) c32_0, .slice none 0 0, .slice none 0 0]⟩) (fun w => by kernel_rfl) rfl) (m_last3 rfl rfl rfl (o_storet (vs := [.slice ca31 ((co).length) cc31, vint er, .slice a32_0 ((se).length) c32_0, .slice none 0 0, .slice none 0 0]) (cs' := [.slice ca31 ((co).length) cc31, vint er, .slice a32_0 ((se).length) c32_0, .slice none 0 0, .slice none 0 0]) Tryz.sizeOf38 rfl rfl rfl rfl hb30 (Nat.le_of_ble_eq_true rfl) rfl rfl ?_))
    intro w33 hz33 hb30 hT33 hG33
    replace hB := below_upd hB hG33 hsz (by omega)
    replace hsz : w.heap.size ≤ w33.heap.size := by rw [hz33]; exact hsz
    replace hb1 := hb1.upd hG33 (by omega)
    replace hty_b1 := hty_b1.upd hG33 (by omega)
    replace hb2 := hb2.upd hG33 (by omega)
    replace hty_b2 := hty_b2.upd hG33 (by omega)
    replace hrc31 := own_ty_upd hrc31 hty_b30 hG33 (by decide)
    replace ho32_0 := own_ty_upd ho32_0 hty_b30 hG33 (by decide)
    replace hty_b30 := hT33 _ hty_b30
    refine m_nil3 (r_forget [(1, .pointer _), (2, .pointer _), (3, .pointer _)] ⟨rfl, rfl, rfl, trivial⟩ (fun e34 => ?_))
    exact hj3 (b30, ca31, cc31, a32_0, c32_0) _ _ ⟨⟨rfl, rfl, rfl, trivial⟩, hbs_b30, (by have := hne_b1_b30; omega), (by have := hne_b2_b30; omega), hb30, hty_b30, hrc31, ho32_0, hb1, hty_b1, hb2, hty_b2, hsz, hB⟩
   ·
    refine m_o3 rfl rfl (o_call Tryz.call63 rfl (code6_ret _ _ co _ (hlg.rco.below hB) (by omega)) rfl ?_)
    rintro _ w35 ⟨ca35, cc35, rfl, hrc35, hE35⟩
    replace hrc35 := own_mono hrc35 (show w.heap.size ≤ _ by omega)
    refine ⟨hE35, ?_⟩
    replace hB := below_ext hB hE35 hsz
    replace hb1 := hb1.ext hE35
    replace hty_b1 := hty_b1.ext hE35
    replace hb2 := hb2.ext hE35
    replace hty_b2 := hty_b2.ext hE35
    replace hsz := Nat.le_trans hsz hE35.size
    refine m_fork3 ?_ ?_
    ·
     refine m_o3 rfl rfl (o_alloct Tryz.zeroValue38 rfl rfl ?_)
     intro b36 w36 hzl36 hzr36 _ hb36 hty_b36 hE36
     refine ⟨hE36, ?_⟩
     have hne_b1_b36 : b1 ≠ b36 := by have := hb1.lt; omega
     have hne_b2_b36 : b2 ≠ b36 := by have := hb2.lt; omega
     have hbs_b36 : w.heap.size ≤ b36 := Nat.le_trans hsz hzl36
     replace hB := below_ext hB hE36 hsz
     replace hb1 := hb1.ext hE36
     replace hty_b1 := hty_b1.ext hE36
     replace hb2 := hb2.ext hE36
     replace hty_b2 := hty_b2.ext hE36
     replace hrc35 := own_ext hrc35 hE36
     replace hsz := Nat.le_trans hsz hE36.size
     refine m_o3 rfl rfl (o_call Tryz.call39 rfl (list6_ret _ _ se _ (hlg.rse.below hB) (by omega)) rfl ?_)
     rintro _ w37 ⟨a37_0, c37_0, rfl, ho37_0, hE37⟩
     replace ho37_0 := own_mono ho37_0 (show w.heap.size ≤ _ by omega)
     refine ⟨hE37, ?_⟩
     replace hB := below_ext hB hE37 hsz
     replace hb1 := hb1.ext hE37
     replace hty_b1 := hty_b1.ext hE37
     replace hb2 := hb2.ext hE37
     replace hty_b2 := hty_b2.ext hE37
     replace hrc35 := own_ext hrc35 hE37
     replace hb36 := hb36.ext hE37
     replace hty_b36 := hty_b36.ext hE37
     replace hsz := Nat.le_trans hsz hE37.size
     refine m_q3 rfl rfl (fun w' hC' => q_build (v := .agg ⟨[.slice ca35 ((co).length) cc35, vint er, .slice a37_0 ((se).length) c37_0, .slice none 0 0, .slice none 0 0]⟩) (fun w => by kernel_rfl) rfl) (m_last3 rfl rfl rfl (o_storet (vs := [.slice ca35 ((co).length) cc35, vint er, .slice a37_0 ((se).length) c37_0, .slice none 0 0, .slice none 0 0]) (cs' := [.slice ca35 ((co).length) cc35, vint er, .slice a37_0 ((se).length) c37_0, .slice none 0 0, .slice none 0 0]) Tryz.sizeOf38 rfl rfl rfl rfl hb36 (Nat.le_of_ble_eq_true rfl) rfl rfl ?_))
     intro w38 hz38 hb36 hT38 hG38
     replace hB := below_upd hB hG38 hsz (by omega)
     replace hsz : w.heap.size ≤ w38.heap.size := by rw [hz38]; exact hsz
     replace hb1 := hb1.upd hG38 (by omega)
     replace hty_b1 := hty_b1.upd hG38 (by omega)
     replace hb2 := hb2.upd hG38 (by omega)
     replace hty_b2 := hty_b2.upd hG38 (by omega)
     replace hrc35 := own_ty_upd hrc35 hty_b36 hG38 (by decide)
     replace ho37_0 := own_ty_upd ho37_0 hty_b36 hG38 (by decide)
     replace hty_b36 := hT38 _ hty_b36
     refine m_nil3 (r_forget [(1, .pointer _), (2, .pointer _), (3, .pointer _)] ⟨rfl, rfl, rfl, trivial⟩ (fun e39 => ?_))
     exact hj3 (b36, ca35, cc35, a37_0, c37_0) _ _ ⟨⟨rfl, rfl, rfl, trivial⟩, hbs_b36, (by have := hne_b1_b36; omega), (by have := hne_b2_b36; omega), hb36, hty_b36, hrc35, ho37_0, hb1, hty_b1, hb2, hty_b2, hsz, hB⟩
    ·
     refine m_o3 rfl rfl (o_call Tryz.call39 rfl (list6_ret _ _ se _ (hlg.rse.below hB) (by omega)) rfl ?_)
     rintro _ w40 ⟨a40_0, c40_0, rfl, ho40_0, hE40⟩
     replace ho40_0 := own_mono ho40_0 (show w.heap.size ≤ _ by omega)
     refine ⟨hE40, ?_⟩
     replace hB := below_ext hB hE40 hsz
     replace hb1 := hb1.ext hE40
     replace hty_b1 := hty_b1.ext hE40
     replace hb2 := hb2.ext hE40
     replace hty_b2 := hty_b2.ext hE40
     replace hrc35 := own_ext hrc35 hE40
     replace hsz := Nat.le_trans hsz hE40.size
     refine m_q3 rfl rfl (fun w' hC' => q_build (v := .agg ⟨[.slice ca35 ((co).length) cc35, vint er, .slice a40_0 ((se).length) c40_0, .slice none 0 0, .slice none 0 0]⟩) (fun w => by kernel_rfl) rfl) (m_o3 rfl rfl (o_alloct Tryz.zeroValue38 rfl rfl ?_))
     intro b41 w41 hzl41 hzr41 _ hb41 hty_b41 hE41
     refine ⟨hE41, ?_⟩
     have hne_b1_b41 : b1 ≠ b41 := by have := hb1.lt; omega
     have hne_b2_b41 : b2 ≠ b41 := by have := hb2.lt; omega
     have hbs_b41 : w.heap.size ≤ b41 := Nat.le_trans hsz hzl41
     replace hB := below_ext hB hE41 hsz
     replace hb1 := hb1.ext hE41
     replace hty_b1 := hty_b1.ext hE41
     replace hb2 := hb2.ext hE41
     replace hty_b2 := hty_b2.ext hE41
     replace hrc35 := own_ext hrc35 hE41
     replace ho40_0 := own_ext ho40_0 hE41
     replace hsz := Nat.le_trans hsz hE41.size
     refine m_last3 rfl rfl rfl (o_storet (vs := [.slice ca35 ((co).length) cc35, vint er, .slice a40_0 ((se).length) c40_0, .slice none 0 0, .slice none 0 0]) (cs' := [.slice ca35 ((co).length) cc35, vint er, .slice a40_0 ((se).length) c40_0, .slice none 0 0, .slice none 0 0]) Tryz.sizeOf38 rfl rfl rfl rfl hb41 (Nat.le_of_ble_eq_true rfl) rfl rfl ?_)
     intro w42 hz42 hb41 hT42 hG42
     replace hB := below_upd hB hG42 hsz (by omega)
     replace hsz : w.heap.size ≤ w42.heap.size := by rw [hz42]; exact hsz
     replace hb1 := hb1.upd hG42 (by omega)
     replace hty_b1 := hty_b1.upd hG42 (by omega)
     replace hb2 := hb2.upd hG42 (by omega)
     replace hty_b2 := hty_b2.upd hG42 (by omega)
     replace hrc35 := own_ty_upd hrc35 hty_b41 hG42 (by decide)
     replace ho40_0 := own_ty_upd ho40_0 hty_b41 hG42 (by decide)
     replace hty_b41 := hT42 _ hty_b41
     refine m_nil3 (r_forget [(1, .pointer _), (2, .pointer _), (3, .pointer _)] ⟨rfl, rfl, rfl, trivial⟩ (fun e43 => ?_))
     exact hj3 (b41, ca35, cc35, a40_0, c40_0) _ _ ⟨⟨rfl, rfl, rfl, trivial⟩, hbs_b41, (by have := hne_b1_b41; omega), (by have := hne_b2_b41; omega), hb41, hty_b41, hrc35, ho40_0, hb1, hty_b1, hb2, hty_b2, hsz, hB⟩
end Go.Proofs.YtekkdhpgcilpdaaGreat
