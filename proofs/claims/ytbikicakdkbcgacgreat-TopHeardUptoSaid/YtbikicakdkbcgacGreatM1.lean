/- Contracts. -/
import Derived.Test.YtbikicakdkbcgacGreatMP
import Derived.Test.YtbikicakdkbcgacGreatF8
import Derived.Test.YtbikicakdkbcgacGreatGvB
set_option linter.unusedVariables false
set_option linter.unusedSimpArgs false
namespace Go.Proofs.YtbikicakdkbcgacGreat
open Go Go.RowKit Go.Gv Go.Fl

structure SN where
  h : Int
  st : Int
  a : Option Addr
  c : Nat
  xs : List Int
abbrev SN.enc (p : SN) : List Value := [vint p.h, vint p.st, .slice p.a p.xs.length p.c]
def SN.pn (p : SN) : Sn := ⟨p.h, p.st, p.xs⟩
def sn00 : SN := ⟨0, 0, none, 0, []⟩
theorem SN.len (p : SN) : p.enc.length = 3 := rfl
theorem SN.one (p : SN) : p.enc.all Value.oneCell' = true := rfl
abbrev RC.enc (p : RC) : List Value := [vint p.h, vint p.st, vstr p.s]
theorem RC.len (p : RC) : p.enc.length = 3 := rfl
theorem RC.one (p : RC) : p.enc.all Value.oneCell' = true := rfl
def RowsS (w : World) (l : List SN) : Prop := ∀ p ∈ l, Row w p.a p.xs.length p.c 1 (p.xs.map vint)
theorem RowsS.ext {w w' : World} {l : List SN} (h : RowsS w l) (hg : Ext w w') : RowsS w' l := fun s hs => (h s hs).ext hg
theorem RowsS.below {w w' : World} {l : List SN} (h : RowsS w l) (hg : Below w.heap.size w w') : RowsS w' l := fun s hs => (h s hs).below hg
theorem RowsS.get {w : World} {l : List SN} (h : RowsS w l) {i : Nat} (hi : i < l.length) : Row w (l.getD i sn00).a (l.getD i sn00).xs.length (l.getD i sn00).c 1 ((l.getD i sn00).xs.map vint) := h _ (getD_lt hi)
structure LgAt (w : World) (ka : Option Addr) (kc : Nat) (co : List Sg) (sa : Option Addr) (sc : Nat) (se : List Int) (ja : Option Addr) (jc : Nat) (sl : List SN) (ra : Option Addr) (rc : Nat) (rl : List RC) : Prop where
  rco : Row w ka co.length kc 1 (co.map vstr)
  rse : Row w sa se.length sc 1 (se.map vint)
  rsl : Row w ja sl.length jc 3 (sl.flatMap SN.enc)
  rslr : RowsS w sl
  rrl : Row w ra rl.length rc 3 (rl.flatMap RC.enc)
section
variable {w w' : World} {ka : Option Addr} {kc : Nat} {co : List Sg} {er : Int} {sa : Option Addr} {sc : Nat} {se : List Int} {ja : Option Addr} {jc : Nat} {sl : List SN} {ra : Option Addr} {rc : Nat} {rl : List RC}
theorem LgAt.ext (h : LgAt w ka kc co sa sc se ja jc sl ra rc rl) (hg : Ext w w') : LgAt w' ka kc co sa sc se ja jc sl ra rc rl := ⟨h.rco.ext hg, h.rse.ext hg, h.rsl.ext hg, h.rslr.ext hg, h.rrl.ext hg⟩
theorem LgAt.below (h : LgAt w ka kc co sa sc se ja jc sl ra rc rl) (hg : Below w.heap.size w w') : LgAt w' ka kc co sa sc se ja jc sl ra rc rl := h.ext (.of_below hg)
def lg (co : List Sg) (er : Int) (se : List Int) (sl : List SN) (rl : List RC) : Lg := ⟨co, er, se, sl.map SN.pn, rl⟩
def LgBig (co : List Sg) (er : Int) (se : List Int) (sl : List SN) (rl : List RC) : Prop := (co.length ≤ 2097152 ∧ ∀ s ∈ co, s.length ≤ 2097152) ∧ (-9223372036854775808 ≤ er ∧ er ≤ 9223372036854775807) ∧ se.length ≤ 2097152 ∧ (sl.length ≤ 2097152 ∧ ∀ x ∈ sl, x.xs.length ≤ 2097152) ∧ rl.length ≤ 2097152 ∧ ∀ r ∈ rl, r.s.length ≤ 2097152
theorem lg_3 (h : 4 < se.length ∨ 8 < sl.length ∨ 6 < rl.length) : faultM (lg co er se sl rl) = 3 := by unfold faultM lg; rw [if_pos (by rw [List.length_map]; exact h)]
theorem lg_f (h : ¬ (4 < se.length ∨ 8 < sl.length ∨ 6 < rl.length)) (hf : ¬ fault co = 0) : faultM (lg co er se sl rl) = fault co := by unfold faultM lg; rw [if_neg (by rw [List.length_map]; exact h), if_pos hf]
theorem pn_all6 {q : Sn → Bool} : (sl.map SN.pn).all q = sl.all (fun x => q x.pn) := by rw [List.all_map]; rfl
theorem lg_1 (h : ¬ (4 < se.length ∨ 8 < sl.length ∨ 6 < rl.length)) (hf : fault co = 0) (hb : ¬ ((0 ≤ er ∧ er ≤ 3) ∧ 0 < se.length ∧ se.all okSee = true ∧ sl.all (fun x => okSn co se.length x.pn) = true ∧ rl.all (okRC se.length) = true)) : faultM (lg co er se sl rl) = 1 := by
  unfold faultM lg
  dsimp only
  rw [if_neg (by rw [List.length_map]; exact h), if_neg (by omega), if_neg]
  rw [pn_all6]
  intro h2
  simp only [Bool.and_eq_true, decide_eq_true_eq] at h2
  exact hb ⟨h2.1.1.1, h2.1.1.2, h2.1.2, h2.2.1, h2.2.2⟩
theorem lg_0 (h : ¬ (4 < se.length ∨ 8 < sl.length ∨ 6 < rl.length)) (hf : fault co = 0) (hb : (0 ≤ er ∧ er ≤ 3) ∧ 0 < se.length ∧ se.all okSee = true ∧ sl.all (fun x => okSn co se.length x.pn) = true ∧ rl.all (okRC se.length) = true) : faultM (lg co er se sl rl) = 0 := by
  unfold faultM lg
  dsimp only
  rw [if_neg (by rw [List.length_map]; exact h), if_neg (by omega), if_pos]
  rw [pn_all6]
  simp only [Bool.and_eq_true, decide_eq_true_eq]
  exact ⟨⟨⟨hb.1, hb.2.1⟩, hb.2.2.1⟩, hb.2.2.2.1, hb.2.2.2.2⟩
end
theorem see_hour {n : Int} (h : ¬ n = -1) : okSee n = hourB n := by
  unfold okSee hourB
  congr 1
  rw [decide_eq_decide]
  omega
theorem oksn_eq {co : List Sg} {n : Nat} {x : SN} (hf : fault co = 0) : okSn co n x.pn = ((hourB x.h && inSt n x.st) && (decide (0 < (x.xs.length : Int)) && decide ((send co x.xs).2 = 0))) := by
  unfold okSn SN.pn send
  dsimp only
  rw [if_neg (by omega)]
  by_cases h1 : 5 < x.xs.length
  · rw [if_pos h1, decide_eq_false (show ¬ x.xs.length ≤ 5 by omega)]; simp
  · rw [if_neg h1, decide_eq_true (show x.xs.length ≤ 5 by omega)]
    have h3 : decide (1 ≤ x.xs.length) = decide (0 < (x.xs.length : Int)) := by rw [decide_eq_decide]; omega
    rw [h3]
    by_cases h2 : isText co x.xs = true
    · rw [if_pos h2, h2]; simp
    · rw [if_neg h2, show isText co x.xs = false by simpa using h2]; simp
theorem errs_self6 (s : Sg) : ((errs s s).2 = 0) ↔ signsFault s [] = 0 := by
  have h1 : signsFault s s = signsFault s [] := by
    unfold signsFault
    by_cases h : 40 < s.length
    · rw [if_pos (.inl h), if_pos (.inl h)]
    · rw [if_neg (show ¬ (40 < s.length ∨ 40 < s.length) by omega), if_neg (show ¬ (40 < s.length ∨ 40 < ([] : Sg).length) by simp; omega)]
      cases isSigns s <;> rfl
  have h2 := fe_refl s
  unfold errs
  rw [h1]
  by_cases h : signsFault s [] = 0
  · rw [if_neg (fun h3 => h3 h), if_neg (by omega)]; simp [h]
  · rw [if_pos h]
theorem okrc_eq {n : Nat} {r : RC} : okRC n r = ((hourB r.h && inSt n r.st) && decide ((errs r.s r.s).2 = 0)) := by
  unfold okRC
  congr 1
  rw [decide_eq_decide]
  exact (errs_self6 r.s).symm
theorem fld43_2 (w : World) (b o : Nat) : (Instr.fieldAt 43 (ptr b o) 2).run Tryz.prog w = .ok (ptr b (o + 2)) w := by
  simp [Instr.fieldAt, run_underlying Tryz.underlying43, fieldPlace, Instr.sureAddr, Tryz.sizeOf31, Addr.add_lit]
theorem fld43_0 (w : World) (b o : Nat) : (Instr.fieldAt 43 (ptr b o) 0).run Tryz.prog w = .ok (ptr b (o + 0)) w := by
  simp [Instr.fieldAt, run_underlying Tryz.underlying43, fieldPlace, Instr.sureAddr, Tryz.sizeOf38, Addr.add_lit]
theorem fld55_2 (w : World) (b o : Nat) : (Instr.fieldAt 55 (ptr b o) 2).run Tryz.prog w = .ok (ptr b (o + 2)) w := by
  simp [Instr.fieldAt, run_underlying Tryz.underlying55, fieldPlace, Instr.sureAddr, Tryz.sizeOf31, Addr.add_lit]
theorem fld55_0 (w : World) (b o : Nat) : (Instr.fieldAt 55 (ptr b o) 0).run Tryz.prog w = .ok (ptr b (o + 0)) w := by
  simp [Instr.fieldAt, run_underlying Tryz.underlying55, fieldPlace, Instr.sureAddr, Tryz.sizeOf3, Addr.add_lit]
theorem fld55_1 (w : World) (b o : Nat) : (Instr.fieldAt 55 (ptr b o) 1).run Tryz.prog w = .ok (ptr b (o + 1)) w := by
  simp [Instr.fieldAt, run_underlying Tryz.underlying55, fieldPlace, Instr.sureAddr, Tryz.sizeOf3, Addr.add_lit]
theorem fld124_2 (w : World) (b o : Nat) : (Instr.fieldAt 124 (ptr b o) 2).run Tryz.prog w = .ok (ptr b (o + 2)) w := by
  simp [Instr.fieldAt, run_underlying Tryz.underlying124, fieldPlace, Instr.sureAddr, Tryz.sizeOf9, Addr.add_lit]
theorem fld124_0 (w : World) (b o : Nat) : (Instr.fieldAt 124 (ptr b o) 0).run Tryz.prog w = .ok (ptr b (o + 0)) w := by
  simp [Instr.fieldAt, run_underlying Tryz.underlying124, fieldPlace, Instr.sureAddr, Tryz.sizeOf3, Addr.add_lit]
theorem fld124_1 (w : World) (b o : Nat) : (Instr.fieldAt 124 (ptr b o) 1).run Tryz.prog w = .ok (ptr b (o + 1)) w := by
  simp [Instr.fieldAt, run_underlying Tryz.underlying124, fieldPlace, Instr.sureAddr, Tryz.sizeOf3, Addr.add_lit]
theorem fld43_3 (w : World) (b o : Nat) : (Instr.fieldAt 43 (ptr b o) 3).run Tryz.prog w = .ok (ptr b (o + 3)) w := by
  simp [Instr.fieldAt, run_underlying Tryz.underlying43, fieldPlace, Instr.sureAddr, Tryz.sizeOf40, Addr.add_lit]
theorem fld43_4 (w : World) (b o : Nat) : (Instr.fieldAt 43 (ptr b o) 4).run Tryz.prog w = .ok (ptr b (o + 4)) w := by
  simp [Instr.fieldAt, run_underlying Tryz.underlying43, fieldPlace, Instr.sureAddr, Tryz.sizeOf41, Addr.add_lit]
theorem fld43_1 (w : World) (b o : Nat) : (Instr.fieldAt 43 (ptr b o) 1).run Tryz.prog w = .ok (ptr b (o + 1)) w := by
  simp [Instr.fieldAt, run_underlying Tryz.underlying43, fieldPlace, Instr.sureAddr, Tryz.sizeOf3, Addr.add_lit]
theorem mwithin_ret (n lo hi : Int) (w : World) : Ret Tryz.prog 45 [vint n, vint lo, vint hi] w (fun v w' => v = .bool (decide (lo ≤ n) && decide (n ≤ hi)) ∧ w = w') := by
 have hB := Below.refl w.heap.size w
 have hsz : w.heap.size ≤ w.heap.size := Nat.le_refl _
 refine ret_of_runs (args := [_, _, _]) Tryz.func45 rfl (Nat.le_of_ble_eq_true rfl) (by kernel_rfl) (r_seq (r_region' (l_q (qab rfl rfl) (l_nil (r_seq (r_region' (l_q (qmi rfl rfl) (l_q (qmi rfl rfl) (l_q (q_leq rfl rfl rfl) (l_q (qmb rfl rfl) (l_part 10 rfl (fun hc1 => ?_) (fun hc1 => ?_))))))))))))
 ·
  replace hc1 := dt hc1
  refine l_q (qmi rfl rfl) (l_q (qmi rfl rfl) (l_q (q_leq rfl rfl rfl) (l_q (q_pick_t (v := .bool _) rfl rfl rfl) (l_q (qab rfl rfl) (l_nil (r_forget [(6, .bool _)] ⟨rfl, trivial⟩ (fun e2 => (r_ret_ (vs := [.bool _]) rfl Tryz.func45 rfl (.nil _) ⟨rfl, trivial⟩ ?_))))))))
  exact ⟨vbool_eq (by simp_all <;> omega), rfl⟩
 ·
  replace hc1 := dle hc1
  refine l_q (q_skip rfl) (l_q (q_skip rfl) (l_q (q_skip rfl) (l_q (q_pick_f (v := .bool _) rfl rfl rfl) (l_q (qab rfl rfl) (l_nil (r_forget [(6, .bool _)] ⟨rfl, trivial⟩ (fun e3 => (r_ret_ (vs := [.bool _]) rfl Tryz.func45 rfl (.nil _) ⟨rfl, trivial⟩ ?_))))))))
  exact ⟨vbool_eq (by simp_all <;> omega), rfl⟩
theorem mhour_ret (n : Int) (w : World) : Ret Tryz.prog 30 [vint n] w (fun v w' => v = .bool (hourB n) ∧ w = w') := by
 have hB := Below.refl w.heap.size w
 have hsz : w.heap.size ≤ w.heap.size := Nat.le_refl _
 refine ret_of_runs (args := [_]) Tryz.func30 rfl (Nat.le_of_ble_eq_true rfl) (by kernel_rfl) (r_seq (r_region' (l_q (qab rfl rfl) (l_nil (r_seq (r_region' (l_q (qmi rfl rfl) (l_o (o_call Tryz.call45 rfl (mwithin_ret _ _ _ _) rfl ?_)))))))))
 rintro _ w1 ⟨rfl, rfl⟩
 refine l_q (qab rfl rfl) (l_nil (r_ret_ (vs := [.bool _]) rfl Tryz.func30 rfl (.nil _) ⟨rfl, trivial⟩ ?_))
 exact ⟨rfl, rfl⟩
theorem all1_mint_ret (b : Nat) (g : FuncId) (fst cap cs : List Value) (p : Nat → Bool) (i : Nat) (v : Value) (w : World) (hb : Blk w b [.func (.func g) ⟨fst⟩ ⟨cap⟩]) (hp : PredI Tryz.prog w g fst cap cs p) (hv : cs[i]? = some v) : Ret Tryz.prog 83 [v, ptr b 0] w (fun v w' => v = .bool (!p i) ∧ Ext w w') := by
 have hbl := hb.lt
 have hB := Below.refl w.heap.size w
 have hsz : w.heap.size ≤ w.heap.size := Nat.le_refl _
 refine ret_of_runs (args := [_, _]) Tryz.func83 rfl (Nat.le_of_ble_eq_true rfl) (by kernel_rfl) (r_seq (r_region' (l_q (qab rfl rfl) (l_nil (r_seq (r_region' (l_q (q_load Tryz.isAgg82 rfl (((hb.below hB (by omega)).has (o := 0) rfl)) rfl) (l_q (q_move (v := v) rfl rfl) (l_o (o_callv (f := g) (fst := fst) (cap := cap) rfl hp.1 rfl (hp.2 _ (Ext.of_below hB) i _ hv) rfl ?_))))))))))
 rintro _ w1 ⟨rfl, hE1⟩
 replace hB := below_ext hB hE1 hsz
 replace hsz := Nat.le_trans hsz hE1.size
 refine l_q (q_not rfl rfl) (l_q (qab rfl rfl) (l_nil (r_ret_ (vs := [.bool _]) rfl Tryz.func83 rfl (.nil _) ⟨rfl, trivial⟩ ?_)))
 exact ⟨rfl, Ext.of_below hB⟩
theorem all1_mint_pred {w : World} {b : Nat} {g : FuncId} {fst cap cs : List Value} {p : Nat → Bool} (hb : Blk w b [.func (.func g) ⟨fst⟩ ⟨cap⟩]) (hp : PredI Tryz.prog w g fst cap cs p) :
    PredI Tryz.prog w 83 [] [ptr b 0] cs (fun i => !p i) :=
  ⟨Tryz.call83, fun w' hw i v hv => all1_mint_ret _ _ _ _ _ _ _ _ _ (hb.ext hw) (hp.ext hw) hv⟩
theorem all_mint_ret (a : Option Addr) (n c : Nat) (cs : List Value) (g : FuncId) (fst cap : List Value) (p : Nat → Bool) (w : World) (hrow : Row w a n c 1 cs) (hp : PredI Tryz.prog w g fst cap cs p) (hn : n ≤ 9223372036854775806) : Ret Tryz.prog 46 [.slice a n c, .func (.func g) ⟨fst⟩ ⟨cap⟩] w (fun v w' => v = .bool ((List.range n).all p) ∧ Ext w w') := by
 have hB := Below.refl w.heap.size w
 have hsz : w.heap.size ≤ w.heap.size := Nat.le_refl _
 refine ret_of_runs (args := [_, _]) Tryz.func46 rfl (Nat.le_of_ble_eq_true rfl) (by kernel_rfl) (r_seq (r_region' (l_o (o_box rfl rfl rfl ?_))))
 intro b1 w1 hzl1 hzr1 _ hb1 hE1
 have hbs_b1 : w.heap.size ≤ b1 := Nat.le_trans hsz hzl1
 replace hB := below_ext hB hE1 hsz
 replace hsz := Nat.le_trans hsz hE1.size
 refine l_q (qab rfl rfl) (l_nil (r_seq (r_region' (l_q (qms rfl rfl) (l_q (q_makeFunc (v := .func _ ⟨[]⟩ ⟨[_]⟩) rfl rfl) (l_o (o_call Tryz.call72 rfl (containsFunc_int_ret _ _ _ _ 83 [] [ptr b1 0] (fun i => !p i) _ (hrow.below hB) (all1_mint_pred hb1 (hp.ext (Ext.of_below hB))) hn) rfl ?_)))))))
 rintro _ w2 ⟨rfl, hE2⟩
 replace hB := below_ext hB hE2 hsz
 replace hsz := Nat.le_trans hsz hE2.size
 refine l_q (q_not rfl rfl) (l_q (qab rfl rfl) (l_nil (r_ret_ (vs := [.bool _]) rfl Tryz.func46 rfl (.nil _) ⟨rfl, trivial⟩ ?_)))
 exact ⟨vbool_eq (by rw [List.all_eq_not_any_not]), Ext.of_below hB⟩
theorem all_mint_of {α : Type} {f : α → Value} {xs : List α} (d : α) {q : α → Bool} {w : World} {a : Option Addr} {c : Nat} {g : FuncId} {fst cap : List Value} (hin : ∀ args w, (callFunc g args).run Tryz.prog w = .ok (.enter g args) w)
    (hrow : Row w a xs.length c 1 (xs.map f)) (h : ∀ w', Ext w w' → ∀ x ∈ xs, Ret Tryz.prog g (fst ++ [f x] ++ cap) w' (fun r w'' => r = .bool (q x) ∧ Ext w' w'')) (hn : xs.length ≤ 9223372036854775806) :
    Ret Tryz.prog 46 [.slice a xs.length c, .func (.func g) ⟨fst⟩ ⟨cap⟩] w (fun v w' => v = .bool (xs.all q) ∧ Ext w w') :=
  (all_mint_ret _ _ _ _ _ _ _ _ _ hrow (predI_of d hin h) hn).mono (fun v w' hx => ⟨by rw [hx.1, range_all xs d q], hx.2⟩)
theorem indexFunc_sn_ret (a : Option Addr) (c : Nat) (xs : List SN) (g : FuncId) (fst cap : List Value) (q : SN → Bool) (w : World) (hrow : Row w a xs.length c 3 (xs.flatMap SN.enc)) (hin : ∀ args w, (callFunc g args).run Tryz.prog w = .ok (.enter g args) w) (hp : ∀ w', Ext w w' → ∀ x ∈ xs, Ret Tryz.prog g (fst ++ [.agg ⟨SN.enc x⟩] ++ cap) w' (fun r w'' => r = .bool (q x) ∧ Ext w' w'')) (hn : xs.length ≤ 9223372036854775806) : Ret Tryz.prog 122 [.slice a xs.length c, .func (.func g) ⟨fst⟩ ⟨cap⟩] w (fun v w' => v = vint (idxI (fun i => q (xs.getD i sn00)) xs.length) ∧ Ext w w') := by
 have hB := Below.refl w.heap.size w
 have hsz : w.heap.size ≤ w.heap.size := Nat.le_refl _
 refine ret_of_runs (args := [_, _]) Tryz.func122 rfl (Nat.le_of_ble_eq_true rfl) (by kernel_rfl) (r_seq (r_region' (l_q (qai rfl rfl) (l_nil (r_seq (r_seq (r_region' (l_q (qms rfl rfl) (l_q (q_len rfl Tryz.underlying40 rfl rfl) (l_q (qmi rfl rfl) (l_nil (r_block (r_rounds (α := Nat) (fun k e wl => Knows e [(0, .slice a xs.length c), (1, .func (.func g) ⟨fst⟩ ⟨cap⟩), (7, vint (xs.length : Int)), (8, vint (k : Int))] ∧ (k ≤ xs.length) ∧ (∀ i, i < k → q (xs.getD i sn00) = false) ∧ (w.heap.size ≤ wl.heap.size) ∧ (Below w.heap.size w wl)) (fun k => xs.length - k) 0 ?_ ?_)))))))))))))
 ·
  exact ⟨⟨rfl, rfl, rfl, rfl, trivial⟩, (Nat.zero_le _), (fun i hi => absurd hi (Nat.not_lt_zero _)), hsz, hB⟩
 ·
  rintro k el1 wl1 ⟨hkn, hk, hno, hsz, hB⟩ ih1
  obtain ⟨e1, rfl⟩ := knows_env hkn
  refine r_seq (r_region' (l_q (q_lss rfl rfl rfl) (l_nil (r_seq (r_cond rfl (fun hc2 => ?_) (fun hc2 => ?_))))))
  ·
   replace hc2 := dt hc2
   refine r_skip (r_seq (r_block (r_seq (r_region' (l_q (qmi rfl rfl) (l_q (qai rfl rfl) (l_nil (r_seq (r_region' (l_q (q_move (v := .func _ _ _) rfl rfl) (l_q (qms rfl rfl) (l_q (qmi rfl rfl) ?_))))))))))))
   obtain ⟨b3, o3, ha3, hh3⟩ := (hrow.below hB).at (by decide) k (by omega)
   refine l_q (q_indexAddr Tryz.underlying40 Tryz.sizeOf55 rfl ha3 rfl (by omega) rfl) (l_q (q_load_agg (cs := [vint (((xs).getD k sn00).h), vint (((xs).getD k sn00).st), .slice (((xs).getD k sn00).a) (((xs).getD k sn00).xs.length) (((xs).getD k sn00).c)]) (n := 3) Tryz.isAgg55 Tryz.sizeOf55 rfl ((cells_cast (wide_at SN.len sn00 _ _ (by omega)) hh3)) rfl rfl) (l_o (o_callv (f := g) (fst := fst) (cap := cap) rfl hin rfl (hp _ (Ext.of_below hB) _ (getD_lt (d := sn00) (i := k) (by omega))) rfl ?_)))
   rintro _ w4 ⟨rfl, hE4⟩
   replace hB := below_ext hB hE4 hsz
   replace hsz := Nat.le_trans hsz hE4.size
   refine l_nil (r_cond rfl (fun hc5 => ?_) (fun hc5 => ?_))
   ·
    refine r_seq (r_region' (l_q (qmi rfl rfl) (l_q (qai rfl rfl) (l_nil (r_forget [(4, .int _ _)] ⟨rfl, trivial⟩ (fun e6 => (r_ret_ (vs := [.int _ _]) rfl Tryz.func122 rfl (.nil _) ⟨rfl, trivial⟩ ?_)))))))
    exact ⟨vint_eq (idxI_found (p := (fun i => q (xs.getD i sn00))) (by omega) (by assumption) hno).symm, Ext.of_below hB⟩
   ·
    refine r_skip (r_inBlock (r_region' (l_q (q_add rfl rfl (by omega) rfl) (l_q (qmi rfl rfl) (l_nil (r_forget [(0, .slice _ _ _), (1, .func _ _ _), (7, .int _ _), (8, .int _ _)] ⟨rfl, rfl, rfl, rfl, trivial⟩ (fun e7 => ?_)))))))
    exact ih1 (k + 1) _ _ ⟨⟨rfl, rfl, rfl, by first | rfl | exact vint_eq (by omega), trivial⟩, (by omega), (fun i hi => by rcases Nat.lt_succ_iff_lt_or_eq.1 hi with h | h; exact hno i h; subst h; assumption), hsz, hB⟩ (by first | omega | (dsimp only; omega))
  ·
   replace hc2 := dlt hc2
   refine r_exit rfl (r_seq (r_region' (l_q (qai rfl rfl) (l_nil (r_ret_ (vs := [.int _ _]) rfl Tryz.func122 rfl (.nil _) ⟨rfl, trivial⟩ ?_)))))
   exact ⟨vint_eq (idxI_none (p := (fun i => q (xs.getD i sn00))) (fun i hi => hno i (by omega))).symm, Ext.of_below hB⟩
theorem containsFunc_sn_ret (a : Option Addr) (c : Nat) (xs : List SN) (g : FuncId) (fst cap : List Value) (q : SN → Bool) (w : World) (hrow : Row w a xs.length c 3 (xs.flatMap SN.enc)) (hin : ∀ args w, (callFunc g args).run Tryz.prog w = .ok (.enter g args) w) (hp : ∀ w', Ext w w' → ∀ x ∈ xs, Ret Tryz.prog g (fst ++ [.agg ⟨SN.enc x⟩] ++ cap) w' (fun r w'' => r = .bool (q x) ∧ Ext w' w'')) (hn : xs.length ≤ 9223372036854775806) : Ret Tryz.prog 84 [.slice a xs.length c, .func (.func g) ⟨fst⟩ ⟨cap⟩] w (fun v w' => v = .bool (xs.any q) ∧ Ext w w') := by
 have hB := Below.refl w.heap.size w
 have hsz : w.heap.size ≤ w.heap.size := Nat.le_refl _
 refine ret_of_runs (args := [_, _]) Tryz.func84 rfl (Nat.le_of_ble_eq_true rfl) (by kernel_rfl) (r_seq (r_region' (l_q (qab rfl rfl) (l_nil (r_seq (r_region' (l_q (qms rfl rfl) (l_q (q_move (v := .func _ _ _) rfl rfl) (l_o (o_call Tryz.call122 rfl (indexFunc_sn_ret _ _ _ _ _ _ _ _ (hrow.below hB) hin hp hn) rfl ?_))))))))))
 rintro _ w1 ⟨rfl, hE1⟩
 replace hB := below_ext hB hE1 hsz
 replace hsz := Nat.le_trans hsz hE1.size
 refine l_q (q_geq rfl rfl rfl) (l_q (qab rfl rfl) (l_nil (r_ret_ (vs := [.bool _]) rfl Tryz.func84 rfl (.nil _) ⟨rfl, trivial⟩ ?_)))
 exact ⟨vbool_eq (by rw [idxI_nonneg, range_any xs sn00 q]), Ext.of_below hB⟩
theorem all1_sn_ret (b : Nat) (g : FuncId) (fst cap : List Value) (q : SN → Bool) (x : SN) (w : World) (hb : Blk w b [.func (.func g) ⟨fst⟩ ⟨cap⟩]) (hin : ∀ args w, (callFunc g args).run Tryz.prog w = .ok (.enter g args) w) (hp : ∀ w', Ext w w' → Ret Tryz.prog g (fst ++ [.agg ⟨SN.enc x⟩] ++ cap) w' (fun r w'' => r = .bool (q x) ∧ Ext w' w'')) : Ret Tryz.prog 85 [.agg ⟨[vint x.h, vint x.st, .slice x.a x.xs.length x.c]⟩, ptr b 0] w (fun v w' => v = .bool (!q x) ∧ Ext w w') := by
 have hbl := hb.lt
 have hB := Below.refl w.heap.size w
 have hsz : w.heap.size ≤ w.heap.size := Nat.le_refl _
 refine ret_of_runs (args := [_, _]) Tryz.func85 rfl (Nat.le_of_ble_eq_true rfl) (by kernel_rfl) (r_seq (r_region' (l_o (o_box rfl rfl rfl ?_))))
 intro b1 w1 hzl1 hzr1 _ hb1 hE1
 have hbs_b1 : w.heap.size ≤ b1 := Nat.le_trans hsz hzl1
 replace hB := below_ext hB hE1 hsz
 replace hsz := Nat.le_trans hsz hE1.size
 refine l_q (qab rfl rfl) (l_nil (r_seq (r_region' (l_q (q_load Tryz.isAgg119 rfl (((hb.below hB (by omega)).has (o := 0) rfl)) rfl) (l_q (q_load_agg (n := 3) Tryz.isAgg55 Tryz.sizeOf55 rfl ((hb1.cells' (cs' := [_, _, _]) 0 3 rfl)) rfl rfl) (l_o (o_callv (f := g) (fst := fst) (cap := cap) rfl hin rfl (hp _ (Ext.of_below hB)) rfl ?_)))))))
 rintro _ w2 ⟨rfl, hE2⟩
 replace hB := below_ext hB hE2 hsz
 replace hsz := Nat.le_trans hsz hE2.size
 refine l_q (q_not rfl rfl) (l_q (qab rfl rfl) (l_nil (r_ret_ (vs := [.bool _]) rfl Tryz.func85 rfl (.nil _) ⟨rfl, trivial⟩ ?_)))
 exact ⟨rfl, Ext.of_below hB⟩
theorem all_sn_ret (a : Option Addr) (c : Nat) (xs : List SN) (g : FuncId) (fst cap : List Value) (q : SN → Bool) (w : World) (hrow : Row w a xs.length c 3 (xs.flatMap SN.enc)) (hin : ∀ args w, (callFunc g args).run Tryz.prog w = .ok (.enter g args) w) (hp : ∀ w', Ext w w' → ∀ x ∈ xs, Ret Tryz.prog g (fst ++ [.agg ⟨SN.enc x⟩] ++ cap) w' (fun r w'' => r = .bool (q x) ∧ Ext w' w'')) (hn : xs.length ≤ 9223372036854775806) : Ret Tryz.prog 48 [.slice a xs.length c, .func (.func g) ⟨fst⟩ ⟨cap⟩] w (fun v w' => v = .bool (xs.all q) ∧ Ext w w') := by
 have hB := Below.refl w.heap.size w
 have hsz : w.heap.size ≤ w.heap.size := Nat.le_refl _
 refine ret_of_runs (args := [_, _]) Tryz.func48 rfl (Nat.le_of_ble_eq_true rfl) (by kernel_rfl) (r_seq (r_region' (l_o (o_box rfl rfl rfl ?_))))
 intro b1 w1 hzl1 hzr1 _ hb1 hE1
 have hbs_b1 : w.heap.size ≤ b1 := Nat.le_trans hsz hzl1
 replace hB := below_ext hB hE1 hsz
 replace hsz := Nat.le_trans hsz hE1.size
 refine l_q (qab rfl rfl) (l_nil (r_seq (r_region' (l_q (qms rfl rfl) (l_q (q_makeFunc (v := .func _ ⟨[]⟩ ⟨[_]⟩) rfl rfl) (l_o (o_call Tryz.call84 rfl (containsFunc_sn_ret _ _ xs 85 [] [ptr b1 0] (fun x => !q x) _ (hrow.below hB) Tryz.call85 (fun w' hw x hx => all1_sn_ret _ _ _ _ _ _ _ (hb1.ext hw) hin (fun w'' hw'' => hp _ ((Ext.of_below hB).trans (hw.trans hw'')) x hx)) hn) rfl ?_)))))))
 rintro _ w2 ⟨rfl, hE2⟩
 replace hB := below_ext hB hE2 hsz
 replace hsz := Nat.le_trans hsz hE2.size
 refine l_q (q_not rfl rfl) (l_q (qab rfl rfl) (l_nil (r_ret_ (vs := [.bool _]) rfl Tryz.func48 rfl (.nil _) ⟨rfl, trivial⟩ ?_)))
 exact ⟨vbool_eq (by rw [List.all_eq_not_any_not]), Ext.of_below hB⟩
theorem indexFunc_rcd_ret (a : Option Addr) (c : Nat) (xs : List RC) (g : FuncId) (fst cap : List Value) (q : RC → Bool) (w : World) (hrow : Row w a xs.length c 3 (xs.flatMap RC.enc)) (hin : ∀ args w, (callFunc g args).run Tryz.prog w = .ok (.enter g args) w) (hp : ∀ w', Ext w w' → ∀ x ∈ xs, Ret Tryz.prog g (fst ++ [.agg ⟨RC.enc x⟩] ++ cap) w' (fun r w'' => r = .bool (q x) ∧ Ext w' w'')) (hn : xs.length ≤ 9223372036854775806) : Ret Tryz.prog 123 [.slice a xs.length c, .func (.func g) ⟨fst⟩ ⟨cap⟩] w (fun v w' => v = vint (idxI (fun i => q (xs.getD i rcd0)) xs.length) ∧ Ext w w') := by
 have hB := Below.refl w.heap.size w
 have hsz : w.heap.size ≤ w.heap.size := Nat.le_refl _
 refine ret_of_runs (args := [_, _]) Tryz.func123 rfl (Nat.le_of_ble_eq_true rfl) (by kernel_rfl) (r_seq (r_region' (l_q (qai rfl rfl) (l_nil (r_seq (r_seq (r_region' (l_q (qms rfl rfl) (l_q (q_len rfl Tryz.underlying41 rfl rfl) (l_q (qmi rfl rfl) (l_nil (r_block (r_rounds (α := Nat) (fun k e wl => Knows e [(0, .slice a xs.length c), (1, .func (.func g) ⟨fst⟩ ⟨cap⟩), (7, vint (xs.length : Int)), (8, vint (k : Int))] ∧ (k ≤ xs.length) ∧ (∀ i, i < k → q (xs.getD i rcd0) = false) ∧ (w.heap.size ≤ wl.heap.size) ∧ (Below w.heap.size w wl)) (fun k => xs.length - k) 0 ?_ ?_)))))))))))))
 ·
  exact ⟨⟨rfl, rfl, rfl, rfl, trivial⟩, (Nat.zero_le _), (fun i hi => absurd hi (Nat.not_lt_zero _)), hsz, hB⟩
 ·
  rintro k el1 wl1 ⟨hkn, hk, hno, hsz, hB⟩ ih1
  obtain ⟨e1, rfl⟩ := knows_env hkn
  refine r_seq (r_region' (l_q (q_lss rfl rfl rfl) (l_nil (r_seq (r_cond rfl (fun hc2 => ?_) (fun hc2 => ?_))))))
  ·
   replace hc2 := dt hc2
   refine r_skip (r_seq (r_block (r_seq (r_region' (l_q (qmi rfl rfl) (l_q (qai rfl rfl) (l_nil (r_seq (r_region' (l_q (q_move (v := .func _ _ _) rfl rfl) (l_q (qms rfl rfl) (l_q (qmi rfl rfl) ?_))))))))))))
   obtain ⟨b3, o3, ha3, hh3⟩ := (hrow.below hB).at (by decide) k (by omega)
   refine l_q (q_indexAddr Tryz.underlying41 Tryz.sizeOf124 rfl ha3 rfl (by omega) rfl) (l_q (q_load_agg (cs := [vint (((xs).getD k rcd0).h), vint (((xs).getD k rcd0).st), vstr (((xs).getD k rcd0).s)]) (n := 3) Tryz.isAgg124 Tryz.sizeOf124 rfl ((cells_cast (wide_at RC.len rcd0 _ _ (by omega)) hh3)) rfl rfl) (l_o (o_callv (f := g) (fst := fst) (cap := cap) rfl hin rfl (hp _ (Ext.of_below hB) _ (getD_lt (d := rcd0) (i := k) (by omega))) rfl ?_)))
   rintro _ w4 ⟨rfl, hE4⟩
   replace hB := below_ext hB hE4 hsz
   replace hsz := Nat.le_trans hsz hE4.size
   refine l_nil (r_cond rfl (fun hc5 => ?_) (fun hc5 => ?_))
   ·
    refine r_seq (r_region' (l_q (qmi rfl rfl) (l_q (qai rfl rfl) (l_nil (r_forget [(4, .int _ _)] ⟨rfl, trivial⟩ (fun e6 => (r_ret_ (vs := [.int _ _]) rfl Tryz.func123 rfl (.nil _) ⟨rfl, trivial⟩ ?_)))))))
    exact ⟨vint_eq (idxI_found (p := (fun i => q (xs.getD i rcd0))) (by omega) (by assumption) hno).symm, Ext.of_below hB⟩
   ·
    refine r_skip (r_inBlock (r_region' (l_q (q_add rfl rfl (by omega) rfl) (l_q (qmi rfl rfl) (l_nil (r_forget [(0, .slice _ _ _), (1, .func _ _ _), (7, .int _ _), (8, .int _ _)] ⟨rfl, rfl, rfl, rfl, trivial⟩ (fun e7 => ?_)))))))
    exact ih1 (k + 1) _ _ ⟨⟨rfl, rfl, rfl, by first | rfl | exact vint_eq (by omega), trivial⟩, (by omega), (fun i hi => by rcases Nat.lt_succ_iff_lt_or_eq.1 hi with h | h; exact hno i h; subst h; assumption), hsz, hB⟩ (by first | omega | (dsimp only; omega))
  ·
   replace hc2 := dlt hc2
   refine r_exit rfl (r_seq (r_region' (l_q (qai rfl rfl) (l_nil (r_ret_ (vs := [.int _ _]) rfl Tryz.func123 rfl (.nil _) ⟨rfl, trivial⟩ ?_)))))
   exact ⟨vint_eq (idxI_none (p := (fun i => q (xs.getD i rcd0))) (fun i hi => hno i (by omega))).symm, Ext.of_below hB⟩
theorem containsFunc_rcd_ret (a : Option Addr) (c : Nat) (xs : List RC) (g : FuncId) (fst cap : List Value) (q : RC → Bool) (w : World) (hrow : Row w a xs.length c 3 (xs.flatMap RC.enc)) (hin : ∀ args w, (callFunc g args).run Tryz.prog w = .ok (.enter g args) w) (hp : ∀ w', Ext w w' → ∀ x ∈ xs, Ret Tryz.prog g (fst ++ [.agg ⟨RC.enc x⟩] ++ cap) w' (fun r w'' => r = .bool (q x) ∧ Ext w' w'')) (hn : xs.length ≤ 9223372036854775806) : Ret Tryz.prog 86 [.slice a xs.length c, .func (.func g) ⟨fst⟩ ⟨cap⟩] w (fun v w' => v = .bool (xs.any q) ∧ Ext w w') := by
 have hB := Below.refl w.heap.size w
 have hsz : w.heap.size ≤ w.heap.size := Nat.le_refl _
 refine ret_of_runs (args := [_, _]) Tryz.func86 rfl (Nat.le_of_ble_eq_true rfl) (by kernel_rfl) (r_seq (r_region' (l_q (qab rfl rfl) (l_nil (r_seq (r_region' (l_q (qms rfl rfl) (l_q (q_move (v := .func _ _ _) rfl rfl) (l_o (o_call Tryz.call123 rfl (indexFunc_rcd_ret _ _ _ _ _ _ _ _ (hrow.below hB) hin hp hn) rfl ?_))))))))))
 rintro _ w1 ⟨rfl, hE1⟩
 replace hB := below_ext hB hE1 hsz
 replace hsz := Nat.le_trans hsz hE1.size
 refine l_q (q_geq rfl rfl rfl) (l_q (qab rfl rfl) (l_nil (r_ret_ (vs := [.bool _]) rfl Tryz.func86 rfl (.nil _) ⟨rfl, trivial⟩ ?_)))
 exact ⟨vbool_eq (by rw [idxI_nonneg, range_any xs rcd0 q]), Ext.of_below hB⟩
theorem all1_rcd_ret (b : Nat) (g : FuncId) (fst cap : List Value) (q : RC → Bool) (x : RC) (w : World) (hb : Blk w b [.func (.func g) ⟨fst⟩ ⟨cap⟩]) (hin : ∀ args w, (callFunc g args).run Tryz.prog w = .ok (.enter g args) w) (hp : ∀ w', Ext w w' → Ret Tryz.prog g (fst ++ [.agg ⟨RC.enc x⟩] ++ cap) w' (fun r w'' => r = .bool (q x) ∧ Ext w' w'')) : Ret Tryz.prog 87 [.agg ⟨[vint x.h, vint x.st, vstr x.s]⟩, ptr b 0] w (fun v w' => v = .bool (!q x) ∧ Ext w w') := by
 have hbl := hb.lt
 have hB := Below.refl w.heap.size w
 have hsz : w.heap.size ≤ w.heap.size := Nat.le_refl _
 refine ret_of_runs (args := [_, _]) Tryz.func87 rfl (Nat.le_of_ble_eq_true rfl) (by kernel_rfl) (r_seq (r_region' (l_o (o_box rfl rfl rfl ?_))))
 intro b1 w1 hzl1 hzr1 _ hb1 hE1
 have hbs_b1 : w.heap.size ≤ b1 := Nat.le_trans hsz hzl1
 replace hB := below_ext hB hE1 hsz
 replace hsz := Nat.le_trans hsz hE1.size
 refine l_q (qab rfl rfl) (l_nil (r_seq (r_region' (l_q (q_load Tryz.isAgg120 rfl (((hb.below hB (by omega)).has (o := 0) rfl)) rfl) (l_q (q_load_agg (n := 3) Tryz.isAgg124 Tryz.sizeOf124 rfl ((hb1.cells' (cs' := [_, _, _]) 0 3 rfl)) rfl rfl) (l_o (o_callv (f := g) (fst := fst) (cap := cap) rfl hin rfl (hp _ (Ext.of_below hB)) rfl ?_)))))))
 rintro _ w2 ⟨rfl, hE2⟩
 replace hB := below_ext hB hE2 hsz
 replace hsz := Nat.le_trans hsz hE2.size
 refine l_q (q_not rfl rfl) (l_q (qab rfl rfl) (l_nil (r_ret_ (vs := [.bool _]) rfl Tryz.func87 rfl (.nil _) ⟨rfl, trivial⟩ ?_)))
 exact ⟨rfl, Ext.of_below hB⟩
theorem all_rcd_ret (a : Option Addr) (c : Nat) (xs : List RC) (g : FuncId) (fst cap : List Value) (q : RC → Bool) (w : World) (hrow : Row w a xs.length c 3 (xs.flatMap RC.enc)) (hin : ∀ args w, (callFunc g args).run Tryz.prog w = .ok (.enter g args) w) (hp : ∀ w', Ext w w' → ∀ x ∈ xs, Ret Tryz.prog g (fst ++ [.agg ⟨RC.enc x⟩] ++ cap) w' (fun r w'' => r = .bool (q x) ∧ Ext w' w'')) (hn : xs.length ≤ 9223372036854775806) : Ret Tryz.prog 49 [.slice a xs.length c, .func (.func g) ⟨fst⟩ ⟨cap⟩] w (fun v w' => v = .bool (xs.all q) ∧ Ext w w') := by
 have hB := Below.refl w.heap.size w
 have hsz : w.heap.size ≤ w.heap.size := Nat.le_refl _
 refine ret_of_runs (args := [_, _]) Tryz.func49 rfl (Nat.le_of_ble_eq_true rfl) (by kernel_rfl) (r_seq (r_region' (l_o (o_box rfl rfl rfl ?_))))
 intro b1 w1 hzl1 hzr1 _ hb1 hE1
 have hbs_b1 : w.heap.size ≤ b1 := Nat.le_trans hsz hzl1
 replace hB := below_ext hB hE1 hsz
 replace hsz := Nat.le_trans hsz hE1.size
 refine l_q (qab rfl rfl) (l_nil (r_seq (r_region' (l_q (qms rfl rfl) (l_q (q_makeFunc (v := .func _ ⟨[]⟩ ⟨[_]⟩) rfl rfl) (l_o (o_call Tryz.call86 rfl (containsFunc_rcd_ret _ _ xs 87 [] [ptr b1 0] (fun x => !q x) _ (hrow.below hB) Tryz.call87 (fun w' hw x hx => all1_rcd_ret _ _ _ _ _ _ _ (hb1.ext hw) hin (fun w'' hw'' => hp _ ((Ext.of_below hB).trans (hw.trans hw'')) x hx)) hn) rfl ?_)))))))
 rintro _ w2 ⟨rfl, hE2⟩
 replace hB := below_ext hB hE2 hsz
 replace hsz := Nat.le_trans hsz hE2.size
 refine l_q (q_not rfl rfl) (l_q (qab rfl rfl) (l_nil (r_ret_ (vs := [.bool _]) rfl Tryz.func49 rfl (.nil _) ⟨rfl, trivial⟩ ?_)))
 exact ⟨vbool_eq (by rw [List.all_eq_not_any_not]), Ext.of_below hB⟩
theorem mat_ret (ka : Option Addr) (kc : Nat) (co : List Sg) (er : Int) (sa : Option Addr) (sc : Nat) (se : List Int) (ja : Option Addr) (jc : Nat) (sl : List SN) (ra : Option Addr) (rc : Nat) (rl : List RC) (h st : Int) (w : World) (hsn : se.length ≤ 2097152) : Ret Tryz.prog 81 [.agg ⟨[.slice ka co.length kc, vint er, .slice sa se.length sc, .slice ja sl.length jc, .slice ra rl.length rc]⟩, vint h, vint st] w (fun v w' => v = .bool (hourB h && inSt se.length st) ∧ Ext w w') := by
 have hB := Below.refl w.heap.size w
 have hsz : w.heap.size ≤ w.heap.size := Nat.le_refl _
 refine ret_of_runs (args := [_, _, _]) Tryz.func81 rfl (Nat.le_of_ble_eq_true rfl) (by kernel_rfl) (r_seq (r_region' (l_o (o_box rfl rfl rfl ?_))))
 intro b1 w1 hzl1 hzr1 _ hb1 hE1
 have hbs_b1 : w.heap.size ≤ b1 := Nat.le_trans hsz hzl1
 replace hB := below_ext hB hE1 hsz
 replace hsz := Nat.le_trans hsz hE1.size
 refine l_q (qab rfl rfl) (l_nil (r_seq (r_region' (l_q (qmi rfl rfl) (l_o (o_call Tryz.call30 rfl (mhour_ret _ _) rfl ?_))))))
 rintro _ w2 ⟨rfl, rfl⟩
 refine l_q (qmb rfl rfl) (l_part 9 rfl (fun hc3 => ?_) (fun hc3 => ?_))
 ·
  have g1 := hc3
  refine l_q (qmi rfl rfl) (l_q (q_fieldAddr (o' := 2) rfl fld43_2 rfl) (l_q (q_load Tryz.isAgg31 rfl ((hb1.has (o := 2) rfl)) rfl) (l_q (q_len rfl Tryz.underlying31 rfl rfl) (l_q (q_sub rfl rfl (by omega) rfl) (l_o (o_call Tryz.call45 rfl (mwithin_ret _ _ _ _) rfl ?_))))))
  rintro _ w4 ⟨rfl, rfl⟩
  refine l_q (q_pick_t (v := .bool _) rfl rfl rfl) (l_q (qab rfl rfl) (l_nil (r_forget [(6, .bool _)] ⟨rfl, trivial⟩ (fun e5 => (r_ret_ (vs := [.bool _]) rfl Tryz.func81 rfl (.nil _) ⟨rfl, trivial⟩ ?_)))))
  exact ⟨vbool_eq (by unfold inSt; simp_all), Ext.of_below hB⟩
 ·
  have g1 := hc3
  refine l_q (q_skip rfl) (l_q (q_skip rfl) (l_q (q_skip rfl) (l_q (q_skip rfl) (l_q (q_skip rfl) (l_q (q_skip rfl) (l_q (q_pick_f (v := .bool _) rfl rfl rfl) (l_q (qab rfl rfl) (l_nil (r_forget [(6, .bool _)] ⟨rfl, trivial⟩ (fun e6 => (r_ret_ (vs := [.bool _]) rfl Tryz.func81 rfl (.nil _) ⟨rfl, trivial⟩ ?_)))))))))))
  exact ⟨vbool_eq (by unfold inSt; simp_all), Ext.of_below hB⟩
theorem msent_ret (ka : Option Addr) (kc : Nat) (co : List Sg) (er : Int) (sa : Option Addr) (sc : Nat) (se : List Int) (ja : Option Addr) (jc : Nat) (sl : List SN) (ra : Option Addr) (rc : Nat) (rl : List RC) (x : SN) (w : World) (hco : Row w ka co.length kc 1 (co.map vstr)) (hcn : co.length ≤ 2097152) (hcl : ∀ s ∈ co, s.length ≤ 2097152) (hf : fault co = 0) (hsn : se.length ≤ 2097152) (hx : Row w x.a x.xs.length x.c 1 (x.xs.map vint)) (hxn : x.xs.length ≤ 2097152) : Ret Tryz.prog 43 [.agg ⟨[.slice ka co.length kc, vint er, .slice sa se.length sc, .slice ja sl.length jc, .slice ra rl.length rc]⟩, .agg ⟨[vint x.h, vint x.st, .slice x.a x.xs.length x.c]⟩] w (fun v w' => v = .bool (okSn co se.length x.pn) ∧ Ext w w') := by
 have hB := Below.refl w.heap.size w
 have hsz : w.heap.size ≤ w.heap.size := Nat.le_refl _
 refine ret_of_runs (args := [_, _]) Tryz.func43 rfl (Nat.le_of_ble_eq_true rfl) (by kernel_rfl) (r_seq (r_region' (l_o (o_box rfl rfl rfl ?_))))
 intro b1 w1 hzl1 hzr1 _ hb1 hE1
 have hbs_b1 : w.heap.size ≤ b1 := Nat.le_trans hsz hzl1
 replace hB := below_ext hB hE1 hsz
 replace hsz := Nat.le_trans hsz hE1.size
 refine l_o (o_box rfl rfl rfl ?_)
 intro b2 w2 hzl2 hzr2 _ hb2 hE2
 have hbs_b2 : w.heap.size ≤ b2 := Nat.le_trans hsz hzl2
 replace hB := below_ext hB hE2 hsz
 replace hb1 := hb1.ext hE2
 replace hsz := Nat.le_trans hsz hE2.size
 refine l_q (qab rfl rfl) (l_nil (r_seq (r_region' (l_q (q_fieldAddr (o' := 0) rfl fld43_0 rfl) (l_q (q_load_agg (n := 1) Tryz.isAgg38 Tryz.sizeOf38 rfl ((hb1.cells' (cs' := [_]) 0 1 rfl)) rfl rfl) (l_q (q_fieldAddr (o' := 2) rfl fld55_2 rfl) (l_q (q_load Tryz.isAgg31 rfl ((hb2.has (o := 2) rfl)) rfl) (l_o (o_call Tryz.call80 rfl (send_ret _ _ co _ _ x.xs _ (hco.below hB) (by omega) (hx.below hB) (by omega) hcl) rfl ?_)))))))))
 rintro _ w3 ⟨rfl, hE3⟩
 replace hB := below_ext hB hE3 hsz
 replace hb1 := hb1.ext hE3
 replace hb2 := hb2.ext hE3
 replace hsz := Nat.le_trans hsz hE3.size
 refine l_q (q_move (v := .tuple _) rfl rfl) (l_q (q_extract (vs := [_, _]) (v := .string _) rfl rfl rfl) (l_q (q_extract (vs := [_, _]) (v := .int _ _) rfl rfl rfl) (l_q (q_assign (v := .string _) rfl rfl) (l_q (qai rfl rfl) (l_nil (r_forget [(2, .pointer _), (3, .pointer _), (6, .int _ _)] ⟨rfl, rfl, rfl, trivial⟩ (fun e4 => (r_seq (r_region' (l_q (q_load_agg (n := 5) Tryz.isAgg43 Tryz.sizeOf43 rfl ((hb1.cells' (cs' := [_, _, _, _, _]) 0 5 rfl)) rfl rfl) (l_q (q_fieldAddr (o' := 0) rfl fld55_0 rfl) (l_q (q_load Tryz.isAgg3 rfl ((hb2.has (o := 0) rfl)) rfl) (l_q (q_fieldAddr (o' := 1) rfl fld55_1 rfl) (l_q (q_load Tryz.isAgg3 rfl ((hb2.has (o := 1) rfl)) rfl) (l_o (o_call Tryz.call81 rfl (mat_ret ka kc co er sa sc se ja jc sl ra rc rl x.h x.st _ hsn) rfl ?_))))))))))))))))
 rintro _ w5 ⟨rfl, hE5⟩
 replace hB := below_ext hB hE5 hsz
 replace hb2 := hb2.ext hE5
 replace hsz := Nat.le_trans hsz hE5.size
 refine l_q (qmb rfl rfl) (l_part 21 rfl (fun hc6 => ?_) (fun hc6 => ?_))
 ·
  try simp only [decide_eq_true_eq, decide_eq_false_iff_not, Bool.not_eq_true', Bool.not_eq_false', Bool.not_not, Bool.not_true, Bool.not_false, Bool.not_eq_true, Bool.not_eq_false, Int.not_lt, Int.not_le, Bool.and_eq_true, Bool.or_eq_true, Bool.and_eq_false_iff, Bool.or_eq_false_iff] at hc6
  have g21 := hc6
  refine l_q (q_fieldAddr (o' := 2) rfl fld55_2 rfl) (l_q (q_load Tryz.isAgg31 rfl ((hb2.has (o := 2) rfl)) rfl) (l_q (q_len rfl Tryz.underlying31 rfl rfl) (l_q (q_gtr rfl rfl rfl) (l_q (q_pick_t (v := .bool _) rfl rfl rfl) (l_q (qmb rfl rfl) (l_part 27 rfl (fun hc7 => ?_) (fun hc7 => ?_)))))))
  ·
   replace hc7 := dt hc7
   have g27 := hc7
   refine l_q (qmi rfl rfl) (l_q (q_eql rfl rfl rfl) (l_q (q_pick_t (v := .bool _) rfl rfl rfl) (l_q (qab rfl rfl) (l_nil (r_forget [(4, .bool _)] ⟨rfl, trivial⟩ (fun e8 => (r_ret_ (vs := [.bool _]) rfl Tryz.func43 rfl (.nil _) ⟨rfl, trivial⟩ ?_)))))))
   exact ⟨vbool_eq (by rw [oksn_eq hf, g21.1, g21.2, decide_eq_true (show 0 < (x.xs.length : Int) by omega)]; rfl), Ext.of_below hB⟩
  ·
   replace hc7 := dlt hc7
   have g27 := hc7
   refine l_q (q_skip rfl) (l_q (q_skip rfl) (l_q (q_pick_f (v := .bool _) rfl rfl rfl) (l_q (qab rfl rfl) (l_nil (r_forget [(4, .bool _)] ⟨rfl, trivial⟩ (fun e9 => (r_ret_ (vs := [.bool _]) rfl Tryz.func43 rfl (.nil _) ⟨rfl, trivial⟩ ?_)))))))
   exact ⟨vbool_eq (by rw [oksn_eq hf, decide_eq_false (show ¬ 0 < (x.xs.length : Int) by omega)]; simp), Ext.of_below hB⟩
 ·
  try simp only [decide_eq_true_eq, decide_eq_false_iff_not, Bool.not_eq_true', Bool.not_eq_false', Bool.not_not, Bool.not_true, Bool.not_false, Bool.not_eq_true, Bool.not_eq_false, Int.not_lt, Int.not_le, Bool.and_eq_true, Bool.or_eq_true, Bool.and_eq_false_iff, Bool.or_eq_false_iff] at hc6
  have g21 := hc6
  refine l_q (q_skip rfl) (l_q (q_skip rfl) (l_q (q_skip rfl) (l_q (q_skip rfl) (l_q (q_pick_f (v := .bool _) rfl rfl rfl) (l_q (qmb rfl rfl) (l_q (q_skip rfl) (l_q (q_skip rfl) (l_q (q_pick_f (v := .bool _) rfl rfl rfl) (l_q (qab rfl rfl) (l_nil (r_forget [(4, .bool _)] ⟨rfl, trivial⟩ (fun e10 => (r_ret_ (vs := [.bool _]) rfl Tryz.func43 rfl (.nil _) ⟨rfl, trivial⟩ ?_)))))))))))))
  exact ⟨vbool_eq (by rcases g21 with h | h <;> rw [oksn_eq hf, h] <;> simp), Ext.of_below hB⟩
theorem mrecord_ret (ka : Option Addr) (kc : Nat) (co : List Sg) (er : Int) (sa : Option Addr) (sc : Nat) (se : List Int) (ja : Option Addr) (jc : Nat) (sl : List SN) (ra : Option Addr) (rc : Nat) (rl : List RC) (r : RC) (w : World) (hsn : se.length ≤ 2097152) (hrn1 : r.s.length ≤ 2097152) : Ret Tryz.prog 44 [.agg ⟨[.slice ka co.length kc, vint er, .slice sa se.length sc, .slice ja sl.length jc, .slice ra rl.length rc]⟩, .agg ⟨[vint r.h, vint r.st, vstr r.s]⟩] w (fun v w' => v = .bool (okRC se.length r) ∧ Ext w w') := by
 have hB := Below.refl w.heap.size w
 have hsz : w.heap.size ≤ w.heap.size := Nat.le_refl _
 refine ret_of_runs (args := [_, _]) Tryz.func44 rfl (Nat.le_of_ble_eq_true rfl) (by kernel_rfl) (r_seq (r_region' (l_o (o_box rfl rfl rfl ?_))))
 intro b1 w1 hzl1 hzr1 _ hb1 hE1
 have hbs_b1 : w.heap.size ≤ b1 := Nat.le_trans hsz hzl1
 replace hB := below_ext hB hE1 hsz
 replace hsz := Nat.le_trans hsz hE1.size
 refine l_o (o_box rfl rfl rfl ?_)
 intro b2 w2 hzl2 hzr2 _ hb2 hE2
 have hbs_b2 : w.heap.size ≤ b2 := Nat.le_trans hsz hzl2
 replace hB := below_ext hB hE2 hsz
 replace hb1 := hb1.ext hE2
 replace hsz := Nat.le_trans hsz hE2.size
 refine l_q (qab rfl rfl) (l_nil (r_seq (r_region' (l_q (q_fieldAddr (o' := 2) rfl fld124_2 rfl) (l_q (q_load Tryz.isAgg9 rfl ((hb2.has (o := 2) rfl)) rfl) (l_q (q_fieldAddr (o' := 2) rfl fld124_2 rfl) (l_q (q_load Tryz.isAgg9 rfl ((hb2.has (o := 2) rfl)) rfl) (l_o (o_call Tryz.call82 rfl (errors_ret r.s r.s _ (by omega) (by omega)) rfl ?_)))))))))
 rintro _ w3 ⟨rfl, hE3⟩
 replace hB := below_ext hB hE3 hsz
 replace hb1 := hb1.ext hE3
 replace hb2 := hb2.ext hE3
 replace hsz := Nat.le_trans hsz hE3.size
 refine l_q (q_move (v := .tuple _) rfl rfl) (l_q (q_extract (vs := [_, _]) (v := .int _ _) rfl rfl rfl) (l_q (q_extract (vs := [_, _]) (v := .int _ _) rfl rfl rfl) (l_q (qai rfl rfl) (l_q (qai rfl rfl) (l_nil (r_forget [(2, .pointer _), (3, .pointer _), (6, .int _ _)] ⟨rfl, rfl, rfl, trivial⟩ (fun e4 => (r_seq (r_region' (l_q (q_load_agg (n := 5) Tryz.isAgg43 Tryz.sizeOf43 rfl ((hb1.cells' (cs' := [_, _, _, _, _]) 0 5 rfl)) rfl rfl) (l_q (q_fieldAddr (o' := 0) rfl fld124_0 rfl) (l_q (q_load Tryz.isAgg3 rfl ((hb2.has (o := 0) rfl)) rfl) (l_q (q_fieldAddr (o' := 1) rfl fld124_1 rfl) (l_q (q_load Tryz.isAgg3 rfl ((hb2.has (o := 1) rfl)) rfl) (l_o (o_call Tryz.call81 rfl (mat_ret ka kc co er sa sc se ja jc sl ra rc rl r.h r.st _ hsn) rfl ?_))))))))))))))))
 rintro _ w5 ⟨rfl, hE5⟩
 replace hB := below_ext hB hE5 hsz
 replace hsz := Nat.le_trans hsz hE5.size
 refine l_q (qmb rfl rfl) (l_part 21 rfl (fun hc6 => ?_) (fun hc6 => ?_))
 ·
  try simp only [decide_eq_true_eq, decide_eq_false_iff_not, Bool.not_eq_true', Bool.not_eq_false', Bool.not_not, Bool.not_true, Bool.not_false, Bool.not_eq_true, Bool.not_eq_false, Int.not_lt, Int.not_le, Bool.and_eq_true, Bool.or_eq_true, Bool.and_eq_false_iff, Bool.or_eq_false_iff] at hc6
  have g21 := hc6
  refine l_q (qmi rfl rfl) (l_q (q_eql rfl rfl rfl) (l_q (q_pick_t (v := .bool _) rfl rfl rfl) (l_q (qab rfl rfl) (l_nil (r_forget [(4, .bool _)] ⟨rfl, trivial⟩ (fun e7 => (r_ret_ (vs := [.bool _]) rfl Tryz.func44 rfl (.nil _) ⟨rfl, trivial⟩ ?_)))))))
  exact ⟨vbool_eq (by rw [okrc_eq, g21.1, g21.2]; rfl), Ext.of_below hB⟩
 ·
  try simp only [decide_eq_true_eq, decide_eq_false_iff_not, Bool.not_eq_true', Bool.not_eq_false', Bool.not_not, Bool.not_true, Bool.not_false, Bool.not_eq_true, Bool.not_eq_false, Int.not_lt, Int.not_le, Bool.and_eq_true, Bool.or_eq_true, Bool.and_eq_false_iff, Bool.or_eq_false_iff] at hc6
  have g21 := hc6
  refine l_q (q_skip rfl) (l_q (q_skip rfl) (l_q (q_pick_f (v := .bool _) rfl rfl rfl) (l_q (qab rfl rfl) (l_nil (r_forget [(4, .bool _)] ⟨rfl, trivial⟩ (fun e8 => (r_ret_ (vs := [.bool _]) rfl Tryz.func44 rfl (.nil _) ⟨rfl, trivial⟩ ?_)))))))
  exact ⟨vbool_eq (by rcases g21 with h | h <;> rw [okrc_eq, h] <;> simp), Ext.of_below hB⟩
theorem msee_ret (n : Int) (w : World) : Ret Tryz.prog 47 [vint n] w (fun v w' => v = .bool (okSee n) ∧ w = w') := by
 have hB := Below.refl w.heap.size w
 have hsz : w.heap.size ≤ w.heap.size := Nat.le_refl _
 refine ret_of_runs (args := [_]) Tryz.func47 rfl (Nat.le_of_ble_eq_true rfl) (by kernel_rfl) (r_seq (r_region' (l_q (qab rfl rfl) (l_nil (r_seq (r_region' (l_q (qmi rfl rfl) (l_q (q_eql rfl rfl rfl) (l_q (qmb rfl rfl) (l_part 5 rfl (fun hc1 => ?_) (fun hc1 => ?_)))))))))))
 ·
  replace hc1 := dt hc1
  have g5 := hc1
  refine l_q (q_skip rfl) (l_q (q_skip rfl) (l_q (q_pick_t (v := .bool _) rfl rfl rfl) (l_q (qab rfl rfl) (l_nil (r_ret_ (vs := [.bool _]) rfl Tryz.func47 rfl (.nil _) ⟨rfl, trivial⟩ ?_)))))
  exact ⟨vbool_eq (by first | (subst g5; rfl) | exact (see_hour g5).symm), rfl⟩
 ·
  replace hc1 := df hc1
  have g5 := hc1
  refine l_q (qmi rfl rfl) (l_o (o_call Tryz.call30 rfl (mhour_ret _ _) rfl ?_))
  rintro _ w2 ⟨rfl, rfl⟩
  refine l_q (q_pick_f (v := .bool _) rfl rfl rfl) (l_q (qab rfl rfl) (l_nil (r_ret_ (vs := [.bool _]) rfl Tryz.func47 rfl (.nil _) ⟨rfl, trivial⟩ ?_)))
  exact ⟨vbool_eq (by first | (subst g5; rfl) | exact (see_hour g5).symm), rfl⟩
theorem checkLog_ret (ka : Option Addr) (kc : Nat) (co : List Sg) (er : Int) (sa : Option Addr) (sc : Nat) (se : List Int) (ja : Option Addr) (jc : Nat) (sl : List SN) (ra : Option Addr) (rc : Nat) (rl : List RC) (w : World) (hlg : LgAt w ka kc co sa sc se ja jc sl ra rc rl) (hbg : LgBig co er se sl rl) : Ret Tryz.prog 29 [.agg ⟨[.slice ka co.length kc, vint er, .slice sa se.length sc, .slice ja sl.length jc, .slice ra rl.length rc]⟩] w (fun v w' => v = vint (faultM (lg co er se sl rl)) ∧ Ext w w') := by
 obtain ⟨⟨hcn, hcl⟩, hen, hsn, ⟨hjn, hjl⟩, hrn, hrl⟩ := id hbg
 have hB := Below.refl w.heap.size w
 have hsz : w.heap.size ≤ w.heap.size := Nat.le_refl _
 refine ret_of_runs (args := [_]) Tryz.func29 rfl (Nat.le_of_ble_eq_true rfl) (by kernel_rfl) (r_seq (r_region' (l_o (o_box rfl rfl rfl ?_))))
 intro b1 w1 hzl1 hzr1 _ hb1 hE1
 have hbs_b1 : w.heap.size ≤ b1 := Nat.le_trans hsz hzl1
 replace hB := below_ext hB hE1 hsz
 replace hsz := Nat.le_trans hsz hE1.size
 refine l_q (qai rfl rfl) (l_nil (r_seq (r_seq (r_region' (l_q (q_fieldAddr (o' := 2) rfl fld43_2 rfl) (l_q (q_load Tryz.isAgg31 rfl ((hb1.has (o := 2) rfl)) rfl) (l_q (q_len rfl Tryz.underlying31 rfl rfl) (l_q (q_gtr rfl rfl rfl) (l_q (qmb rfl rfl) (l_part 10 rfl (fun hc2 => ?_) (fun hc2 => ?_)))))))))))
 ·
  replace hc2 := dt hc2
  have g10 := hc2
  refine l_q (q_skip rfl) (l_q (q_skip rfl) (l_q (q_skip rfl) (l_q (q_skip rfl) (l_q (q_pick_t (v := .bool _) rfl rfl rfl) (l_q (qmb rfl rfl) (l_q (q_skip rfl) (l_q (q_skip rfl) (l_q (q_skip rfl) (l_q (q_skip rfl) (l_q (q_pick_t (v := .bool _) rfl rfl rfl) (l_nil (r_forget [(1, .pointer _), (21, .bool _)] ⟨rfl, rfl, trivial⟩ (fun e3 => (r_cond_t rfl (r_seq (r_region' (l_q (qai rfl rfl) (l_nil (r_ret_ (vs := [.int _ _]) rfl Tryz.func29 rfl (.nil _) ⟨rfl, trivial⟩ ?_)))))))))))))))))))
  exact ⟨vint_eq (lg_3 (by omega)).symm, Ext.of_below hB⟩
 ·
  replace hc2 := dlt hc2
  have g10 := hc2
  refine l_q (q_fieldAddr (o' := 3) rfl fld43_3 rfl) (l_q (q_load Tryz.isAgg40 rfl ((hb1.has (o := 3) rfl)) rfl) (l_q (q_len rfl Tryz.underlying40 rfl rfl) (l_q (q_gtr rfl rfl rfl) (l_q (q_pick_f (v := .bool _) rfl rfl rfl) (l_q (qmb rfl rfl) (l_part 16 rfl (fun hc4 => ?_) (fun hc4 => ?_)))))))
  ·
   replace hc4 := dt hc4
   have g16 := hc4
   refine l_q (q_skip rfl) (l_q (q_skip rfl) (l_q (q_skip rfl) (l_q (q_skip rfl) (l_q (q_pick_t (v := .bool _) rfl rfl rfl) (l_nil (r_forget [(1, .pointer _), (21, .bool _)] ⟨rfl, rfl, trivial⟩ (fun e5 => (r_cond_t rfl (r_seq (r_region' (l_q (qai rfl rfl) (l_nil (r_ret_ (vs := [.int _ _]) rfl Tryz.func29 rfl (.nil _) ⟨rfl, trivial⟩ ?_)))))))))))))
   exact ⟨vint_eq (lg_3 (by omega)).symm, Ext.of_below hB⟩
  ·
   replace hc4 := dlt hc4
   have g16 := hc4
   refine l_q (q_fieldAddr (o' := 4) rfl fld43_4 rfl) (l_q (q_load Tryz.isAgg41 rfl ((hb1.has (o := 4) rfl)) rfl) (l_q (q_len rfl Tryz.underlying41 rfl rfl) (l_q (q_gtr rfl rfl rfl) (l_q (q_pick_f (v := .bool _) rfl rfl rfl) (l_nil (r_forget [(1, .pointer _), (21, .bool _)] ⟨rfl, rfl, trivial⟩ (fun e6 => (r_cond rfl (fun hc7 => ?_) (fun hc7 => ?_)))))))))
   ·
    replace hc7 := dt hc7
    have g21 := hc7
    refine r_seq (r_region' (l_q (qai rfl rfl) (l_nil (r_ret_ (vs := [.int _ _]) rfl Tryz.func29 rfl (.nil _) ⟨rfl, trivial⟩ ?_))))
    exact ⟨vint_eq (lg_3 (by omega)).symm, Ext.of_below hB⟩
   ·
    replace hc7 := dlt hc7
    have g21 := hc7
    refine r_skip (r_seq (r_seq (r_region' (l_q (q_fieldAddr (o' := 0) rfl fld43_0 rfl) (l_q (q_load_agg (n := 1) Tryz.isAgg38 Tryz.sizeOf38 rfl ((hb1.cells' (cs' := [_]) 0 1 rfl)) rfl rfl) (l_o (o_call Tryz.call42 rfl (checkCode_ret _ _ _ _ (hlg.rco.below hB) (by omega) (by assumption)) rfl ?_)))))))
    rintro _ w8 ⟨rfl, hE8⟩
    replace hB := below_ext hB hE8 hsz
    replace hb1 := hb1.ext hE8
    replace hsz := Nat.le_trans hsz hE8.size
    refine l_q (qai rfl rfl) (l_nil (r_seq (r_region' (l_q (qmi rfl rfl) (l_q (q_neq rfl rfl rfl) (l_nil (r_cond rfl (fun hc9 => ?_) (fun hc9 => ?_))))))))
    ·
     replace hc9 := df (nt hc9)
     have hf1 : ¬ fault co = 0 := by have := hc9; omega
     refine r_seq (r_region' (l_q (qmi rfl rfl) (l_q (qai rfl rfl) (l_nil (r_ret_ (vs := [.int _ _]) rfl Tryz.func29 rfl (.nil _) ⟨rfl, trivial⟩ ?_)))))
     exact ⟨vint_eq (lg_f (by omega) hf1).symm, Ext.of_below hB⟩
    ·
     replace hc9 := dt (nf hc9)
     have hf0 : fault co = 0 := by have := hc9; omega
     refine r_skip (r_seq (r_draw ext_refl' ext_trans' [0, 1, 2, 3, 4, 5] [] 2 (by kernel_rfl) (by kernel_rfl) ?_))
     intro w10 _ hE10
     replace hB := below_ext hB hE10 hsz
     replace hb1 := hb1.ext hE10
     replace hsz := Nat.le_trans hsz hE10.size
     refine m_q rfl rfl (fun w' hC' => q_load_agg (n := 5) Tryz.isAgg43 Tryz.sizeOf43 rfl (((hb1.cells' (cs' := [_, _, _, _, _]) 0 5 rfl).ext hC')) rfl rfl) (m_q rfl rfl (fun w' hC' => q_makeFunc (v := .func _ ⟨[_]⟩ ⟨[]⟩) rfl rfl) (m_q rfl rfl (fun w' hC' => q_load_agg (n := 5) Tryz.isAgg43 Tryz.sizeOf43 rfl (((hb1.cells' (cs' := [_, _, _, _, _]) 0 5 rfl).ext hC')) rfl rfl) (m_q rfl rfl (fun w' hC' => q_makeFunc (v := .func _ ⟨[_]⟩ ⟨[]⟩) rfl rfl) (m_q rfl rfl (fun w' hC' => q_assign (v := .func _ _ _) rfl rfl) (m_q rfl rfl (fun w' hC' => q_assign (v := .func _ _ _) rfl rfl) (m_nil (r_forget [(1, .pointer _), (4, .func _ _ _), (5, .func _ _ _)] ⟨rfl, rfl, rfl, trivial⟩ (fun e11 => (r_seq (r_seq (r_region' (l_q (q_fieldAddr (o' := 1) rfl fld43_1 rfl) (l_q (q_load Tryz.isAgg3 rfl ((hb1.has (o := 1) rfl)) rfl) (l_o (o_call Tryz.call45 rfl (mwithin_ret _ _ _ _) rfl ?_)))))))))))))))
     rintro _ w12 ⟨rfl, rfl⟩
     refine l_q (q_not rfl rfl) (l_q (qmb rfl rfl) (l_part 36 rfl (fun hc13 => ?_) (fun hc13 => ?_)))
     ·
      replace hc13 := b2f (nt hc13)
      have g36 := hc13
      refine l_q (q_skip rfl) (l_q (q_skip rfl) (l_q (q_skip rfl) (l_q (q_skip rfl) (l_q (q_pick_t (v := .bool _) rfl rfl rfl) (l_q (qmb rfl rfl) (l_q (q_skip rfl) (l_q (q_skip rfl) (l_q (q_skip rfl) (l_q (q_skip rfl) (l_q (q_pick_t (v := .bool _) rfl rfl rfl) (l_q (qmb rfl rfl) (l_q (q_skip rfl) (l_q (q_skip rfl) (l_q (q_skip rfl) (l_q (q_skip rfl) (l_q (q_skip rfl) (l_q (q_pick_t (v := .bool _) rfl rfl rfl) (l_q (qmb rfl rfl) (l_q (q_skip rfl) (l_q (q_skip rfl) (l_q (q_skip rfl) (l_q (q_skip rfl) (l_q (q_skip rfl) (l_q (q_pick_t (v := .bool _) rfl rfl rfl) (l_nil (r_forget [(61, .bool _)] ⟨rfl, trivial⟩ (fun e14 => (r_cond_t rfl (r_seq (r_region' (l_q (qai rfl rfl) (l_nil (r_ret_ (vs := [.int _ _]) rfl Tryz.func29 rfl (.nil _) ⟨rfl, trivial⟩ ?_)))))))))))))))))))))))))))))))))
      exact ⟨vint_eq (lg_1 (by omega) hf0 (fun ⟨h1, h2, h3, h4, h5⟩ => by first | omega | (simp only [h3, h4, h5] at *; simp_all))).symm, Ext.of_below hB⟩
     ·
      replace hc13 := b2t (nf hc13)
      have g36 := hc13
      refine l_q (q_fieldAddr (o' := 2) rfl fld43_2 rfl) (l_q (q_load Tryz.isAgg31 rfl ((hb1.has (o := 2) rfl)) rfl) (l_q (q_len rfl Tryz.underlying31 rfl rfl) (l_q (q_eql rfl rfl rfl) (l_q (q_pick_f (v := .bool _) rfl rfl rfl) (l_q (qmb rfl rfl) (l_part 42 rfl (fun hc15 => ?_) (fun hc15 => ?_)))))))
      ·
       replace hc15 := dt hc15
       have g42 := hc15
       refine l_q (q_skip rfl) (l_q (q_skip rfl) (l_q (q_skip rfl) (l_q (q_skip rfl) (l_q (q_pick_t (v := .bool _) rfl rfl rfl) (l_q (qmb rfl rfl) (l_q (q_skip rfl) (l_q (q_skip rfl) (l_q (q_skip rfl) (l_q (q_skip rfl) (l_q (q_skip rfl) (l_q (q_pick_t (v := .bool _) rfl rfl rfl) (l_q (qmb rfl rfl) (l_q (q_skip rfl) (l_q (q_skip rfl) (l_q (q_skip rfl) (l_q (q_skip rfl) (l_q (q_skip rfl) (l_q (q_pick_t (v := .bool _) rfl rfl rfl) (l_nil (r_forget [(61, .bool _)] ⟨rfl, trivial⟩ (fun e16 => (r_cond_t rfl (r_seq (r_region' (l_q (qai rfl rfl) (l_nil (r_ret_ (vs := [.int _ _]) rfl Tryz.func29 rfl (.nil _) ⟨rfl, trivial⟩ ?_)))))))))))))))))))))))))))
       exact ⟨vint_eq (lg_1 (by omega) hf0 (fun ⟨h1, h2, h3, h4, h5⟩ => by first | omega | (simp only [h3, h4, h5] at *; simp_all))).symm, Ext.of_below hB⟩
      ·
       replace hc15 := df hc15
       have g42 := hc15
       refine l_q (q_fieldAddr (o' := 2) rfl fld43_2 rfl) (l_q (q_load Tryz.isAgg31 rfl ((hb1.has (o := 2) rfl)) rfl) (l_o (o_call Tryz.call46 rfl ((all_mint_of 0 (q := okSee) Tryz.call47 (hlg.rse.below hB) (fun w' hw x hx => (msee_ret x w').mono (fun v w2 h => ⟨h.1, h.2 ▸ Ext.refl _⟩)) (by omega))) rfl ?_)))
       rintro _ w17 ⟨rfl, hE17⟩
       replace hB := below_ext hB hE17 hsz
       replace hb1 := hb1.ext hE17
       replace hsz := Nat.le_trans hsz hE17.size
       refine l_q (q_not rfl rfl) (l_q (q_pick_f (v := .bool _) rfl rfl rfl) (l_q (qmb rfl rfl) (l_part 48 rfl (fun hc18 => ?_) (fun hc18 => ?_))))
       ·
        replace hc18 := nt hc18
        have g48 := hc18
        refine l_q (q_skip rfl) (l_q (q_skip rfl) (l_q (q_skip rfl) (l_q (q_skip rfl) (l_q (q_skip rfl) (l_q (q_pick_t (v := .bool _) rfl rfl rfl) (l_q (qmb rfl rfl) (l_q (q_skip rfl) (l_q (q_skip rfl) (l_q (q_skip rfl) (l_q (q_skip rfl) (l_q (q_skip rfl) (l_q (q_pick_t (v := .bool _) rfl rfl rfl) (l_nil (r_forget [(61, .bool _)] ⟨rfl, trivial⟩ (fun e19 => (r_cond_t rfl (r_seq (r_region' (l_q (qai rfl rfl) (l_nil (r_ret_ (vs := [.int _ _]) rfl Tryz.func29 rfl (.nil _) ⟨rfl, trivial⟩ ?_)))))))))))))))))))))
        exact ⟨vint_eq (lg_1 (by omega) hf0 (fun ⟨h1, h2, h3, h4, h5⟩ => by first | omega | (simp only [h3, h4, h5] at *; simp_all))).symm, Ext.of_below hB⟩
       ·
        replace hc18 := nf hc18
        have g48 := hc18
        refine l_q (q_fieldAddr (o' := 3) rfl fld43_3 rfl) (l_q (q_load Tryz.isAgg40 rfl ((hb1.has (o := 3) rfl)) rfl) (l_q (q_move (v := .func _ _ _) rfl rfl) (l_o (o_call Tryz.call48 rfl (all_sn_ret _ _ sl 43 _ _ (fun x => okSn co se.length x.pn) _ (hlg.rsl.below hB) Tryz.call43 (fun w' hw x hx => msent_ret ka kc co er sa sc se ja jc sl ra rc rl x _ (hlg.rco.ext ((Ext.of_below hB).trans hw)) hcn hcl hf0 hsn ((hlg.rslr.ext ((Ext.of_below hB).trans hw)) x hx) (hjl x hx)) (by omega)) rfl ?_))))
        rintro _ w20 ⟨rfl, hE20⟩
        replace hB := below_ext hB hE20 hsz
        replace hb1 := hb1.ext hE20
        replace hsz := Nat.le_trans hsz hE20.size
        refine l_q (q_not rfl rfl) (l_q (q_pick_f (v := .bool _) rfl rfl rfl) (l_q (qmb rfl rfl) (l_part 55 rfl (fun hc21 => ?_) (fun hc21 => ?_))))
        ·
         replace hc21 := nt hc21
         have g55 := hc21
         refine l_q (q_skip rfl) (l_q (q_skip rfl) (l_q (q_skip rfl) (l_q (q_skip rfl) (l_q (q_skip rfl) (l_q (q_pick_t (v := .bool _) rfl rfl rfl) (l_nil (r_forget [(61, .bool _)] ⟨rfl, trivial⟩ (fun e22 => (r_cond_t rfl (r_seq (r_region' (l_q (qai rfl rfl) (l_nil (r_ret_ (vs := [.int _ _]) rfl Tryz.func29 rfl (.nil _) ⟨rfl, trivial⟩ ?_))))))))))))))
         exact ⟨vint_eq (lg_1 (by omega) hf0 (fun ⟨h1, h2, h3, h4, h5⟩ => by first | omega | (simp only [h3, h4, h5] at *; simp_all))).symm, Ext.of_below hB⟩
        ·
         replace hc21 := nf hc21
         have g55 := hc21
         refine l_q (q_fieldAddr (o' := 4) rfl fld43_4 rfl) (l_q (q_load Tryz.isAgg41 rfl ((hb1.has (o := 4) rfl)) rfl) (l_q (q_move (v := .func _ _ _) rfl rfl) (l_o (o_call Tryz.call49 rfl (all_rcd_ret _ _ rl 44 _ _ (okRC se.length) _ (hlg.rrl.below hB) Tryz.call44 (fun w' hw r hr => mrecord_ret ka kc co er sa sc se ja jc sl ra rc rl r _ hsn (hrl r hr)) (by omega)) rfl ?_))))
         rintro _ w23 ⟨rfl, hE23⟩
         replace hB := below_ext hB hE23 hsz
         replace hsz := Nat.le_trans hsz hE23.size
         refine l_q (q_not rfl rfl) (l_q (q_pick_f (v := .bool _) rfl rfl rfl) (l_nil (r_forget [(61, .bool _)] ⟨rfl, trivial⟩ (fun e24 => (r_cond rfl (fun hc25 => ?_) (fun hc25 => ?_))))))
         ·
          replace hc25 := nt hc25
          have g61 := hc25
          refine r_seq (r_region' (l_q (qai rfl rfl) (l_nil (r_ret_ (vs := [.int _ _]) rfl Tryz.func29 rfl (.nil _) ⟨rfl, trivial⟩ ?_))))
          exact ⟨vint_eq (lg_1 (by omega) hf0 (fun ⟨h1, h2, h3, h4, h5⟩ => by first | omega | (simp only [h3, h4, h5] at *; simp_all))).symm, Ext.of_below hB⟩
         ·
          replace hc25 := nf hc25
          have g61 := hc25
          refine r_skip (r_seq (r_region' (l_q (qai rfl rfl) (l_nil (r_ret_ (vs := [.int _ _]) rfl Tryz.func29 rfl (.nil _) ⟨rfl, trivial⟩ ?_)))))
          exact ⟨vint_eq (lg_0 (by omega) hf0 ⟨by omega, by omega, by first | assumption | simp_all, by first | assumption | simp_all, by first | assumption | simp_all⟩).symm, Ext.of_below hB⟩
end Go.Proofs.YtbikicakdkbcgacGreat
