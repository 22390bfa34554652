/- Contracts. -/
import Derived.Test.YtbikicakdkbcgacGreatF1
set_option linter.unusedVariables false
set_option linter.unusedSimpArgs false
namespace Go.Proofs.YtbikicakdkbcgacGreat
open Go Go.RowKit Go.Gv Go.Fl

theorem any_eq_contains (xs : List (List UInt8)) (s : List UInt8) : xs.any (fun x => decide (s = x)) = xs.contains s := by
  rw [Bool.eq_iff_iff, List.any_eq_true, List.contains_iff_mem]
  simp

theorem fld38_0 (w : World) (b o : Nat) : (Instr.fieldAt 38 (ptr b o) 0).run Tryz.prog w = .ok (ptr b (o + 0)) w := by
  simp [Instr.fieldAt, run_underlying Tryz.underlying38, fieldPlace, Instr.sureAddr, Tryz.sizeOf28, Addr.add_lit]
theorem fld149_1 (w : World) (b o : Nat) : (Instr.fieldAt 149 (ptr b o) 1).run Tryz.prog w = .ok (ptr b (o + 1)) w := by
  simp [Instr.fieldAt, run_underlying Tryz.underlying149, fieldPlace, Instr.sureAddr, Tryz.sizeOf3, Addr.add_lit]
theorem all1_byte_ret (b : Nat) (g : FuncId) (fst cap cs : List Value) (p : Nat → Bool) (i : Nat) (v : Value) (w : World) (hb : Blk w b [.func (.func g) ⟨fst⟩ ⟨cap⟩]) (hp : PredI Tryz.prog w g fst cap cs p) (hv : cs[i]? = some v) : Ret Tryz.prog 148 [v, ptr b 0] w (fun v w' => v = .bool (!p i) ∧ Ext w w') := by
 have hbl := hb.lt
 have hB := Below.refl w.heap.size w
 have hsz : w.heap.size ≤ w.heap.size := Nat.le_refl _
 refine ret_of_runs (args := [_, _]) Tryz.func148 rfl (Nat.le_of_ble_eq_true rfl) (by kernel_rfl) (r_seq (r_region' (l_q (qab rfl rfl) (l_nil (r_seq (r_region' (l_q (q_load Tryz.isAgg170 rfl (((hb.below hB (by omega)).has (o := 0) rfl)) rfl) (l_q (q_move (v := v) rfl rfl) (l_o (o_callv (f := g) (fst := fst) (cap := cap) rfl hp.1 rfl (hp.2 _ (Ext.of_below hB) i _ hv) rfl ?_))))))))))
 rintro _ w1 ⟨rfl, hE1⟩
 replace hB := below_ext hB hE1 hsz
 replace hsz := Nat.le_trans hsz hE1.size
 refine l_q (q_not rfl rfl) (l_q (qab rfl rfl) (l_nil (r_ret_ (vs := [.bool _]) rfl Tryz.func148 rfl (.nil _) ⟨rfl, trivial⟩ ?_)))
 exact ⟨rfl, Ext.of_below hB⟩
theorem all1_byte_pred {w : World} {b : Nat} {g : FuncId} {fst cap cs : List Value} {p : Nat → Bool} (hb : Blk w b [.func (.func g) ⟨fst⟩ ⟨cap⟩]) (hp : PredI Tryz.prog w g fst cap cs p) :
    PredI Tryz.prog w 148 [] [ptr b 0] cs (fun i => !p i) :=
  ⟨Tryz.call148, fun w' hw i v hv => all1_byte_ret _ _ _ _ _ _ _ _ _ (hb.ext hw) (hp.ext hw) hv⟩
theorem all_byte_ret (a : Option Addr) (n c : Nat) (cs : List Value) (g : FuncId) (fst cap : List Value) (p : Nat → Bool) (w : World) (hrow : Row w a n c 1 cs) (hp : PredI Tryz.prog w g fst cap cs p) (hn : n ≤ 9223372036854775806) : Ret Tryz.prog 112 [.slice a n c, .func (.func g) ⟨fst⟩ ⟨cap⟩] w (fun v w' => v = .bool ((List.range n).all p) ∧ Ext w w') := by
 have hB := Below.refl w.heap.size w
 have hsz : w.heap.size ≤ w.heap.size := Nat.le_refl _
 refine ret_of_runs (args := [_, _]) Tryz.func112 rfl (Nat.le_of_ble_eq_true rfl) (by kernel_rfl) (r_seq (r_region' (l_o (o_box rfl rfl rfl ?_))))
 intro b1 w1 hzl1 hzr1 _ hb1 hE1
 have hbs_b1 : w.heap.size ≤ b1 := Nat.le_trans hsz hzl1
 replace hB := below_ext hB hE1 hsz
 replace hsz := Nat.le_trans hsz hE1.size
 refine l_q (qab rfl rfl) (l_nil (r_seq (r_region' (l_q (qms rfl rfl) (l_q (q_makeFunc (v := .func _ ⟨[]⟩ ⟨[_]⟩) rfl rfl) (l_o (o_call Tryz.call147 rfl (containsFunc_byte_ret _ _ _ _ 148 [] [ptr b1 0] (fun i => !p i) _ (hrow.below hB) (all1_byte_pred hb1 (hp.ext (Ext.of_below hB))) hn) rfl ?_)))))))
 rintro _ w2 ⟨rfl, hE2⟩
 replace hB := below_ext hB hE2 hsz
 replace hsz := Nat.le_trans hsz hE2.size
 refine l_q (q_not rfl rfl) (l_q (qab rfl rfl) (l_nil (r_ret_ (vs := [.bool _]) rfl Tryz.func112 rfl (.nil _) ⟨rfl, trivial⟩ ?_)))
 exact ⟨vbool_eq (by rw [List.all_eq_not_any_not]), Ext.of_below hB⟩
theorem all_byte_of {α : Type} {f : α → Value} {xs : List α} (d : α) {q : α → Bool} {w : World} {a : Option Addr} {c : Nat} {g : FuncId} {fst cap : List Value} (hin : ∀ args w, (callFunc g args).run Tryz.prog w = .ok (.enter g args) w)
    (hrow : Row w a xs.length c 1 (xs.map f)) (h : ∀ w', Ext w w' → ∀ x ∈ xs, Ret Tryz.prog g (fst ++ [f x] ++ cap) w' (fun r w'' => r = .bool (q x) ∧ Ext w' w'')) (hn : xs.length ≤ 9223372036854775806) :
    Ret Tryz.prog 112 [.slice a xs.length c, .func (.func g) ⟨fst⟩ ⟨cap⟩] w (fun v w' => v = .bool (xs.all q) ∧ Ext w w') :=
  (all_byte_ret _ _ _ _ _ _ _ _ _ hrow (predI_of d hin h) hn).mono (fun v w' hx => ⟨by rw [hx.1, range_all xs d q], hx.2⟩)
theorem all1_string_ret (b : Nat) (g : FuncId) (fst cap cs : List Value) (p : Nat → Bool) (i : Nat) (v : Value) (w : World) (hb : Blk w b [.func (.func g) ⟨fst⟩ ⟨cap⟩]) (hp : PredI Tryz.prog w g fst cap cs p) (hv : cs[i]? = some v) : Ret Tryz.prog 115 [v, ptr b 0] w (fun v w' => v = .bool (!p i) ∧ Ext w w') := by
 have hbl := hb.lt
 have hB := Below.refl w.heap.size w
 have hsz : w.heap.size ≤ w.heap.size := Nat.le_refl _
 refine ret_of_runs (args := [_, _]) Tryz.func115 rfl (Nat.le_of_ble_eq_true rfl) (by kernel_rfl) (r_seq (r_region' (l_q (qab rfl rfl) (l_nil (r_seq (r_region' (l_q (q_load Tryz.isAgg147 rfl (((hb.below hB (by omega)).has (o := 0) rfl)) rfl) (l_q (q_move (v := v) rfl rfl) (l_o (o_callv (f := g) (fst := fst) (cap := cap) rfl hp.1 rfl (hp.2 _ (Ext.of_below hB) i _ hv) rfl ?_))))))))))
 rintro _ w1 ⟨rfl, hE1⟩
 replace hB := below_ext hB hE1 hsz
 replace hsz := Nat.le_trans hsz hE1.size
 refine l_q (q_not rfl rfl) (l_q (qab rfl rfl) (l_nil (r_ret_ (vs := [.bool _]) rfl Tryz.func115 rfl (.nil _) ⟨rfl, trivial⟩ ?_)))
 exact ⟨rfl, Ext.of_below hB⟩
theorem all1_string_pred {w : World} {b : Nat} {g : FuncId} {fst cap cs : List Value} {p : Nat → Bool} (hb : Blk w b [.func (.func g) ⟨fst⟩ ⟨cap⟩]) (hp : PredI Tryz.prog w g fst cap cs p) :
    PredI Tryz.prog w 115 [] [ptr b 0] cs (fun i => !p i) :=
  ⟨Tryz.call115, fun w' hw i v hv => all1_string_ret _ _ _ _ _ _ _ _ _ (hb.ext hw) (hp.ext hw) hv⟩
theorem all_string_ret (a : Option Addr) (n c : Nat) (cs : List Value) (g : FuncId) (fst cap : List Value) (p : Nat → Bool) (w : World) (hrow : Row w a n c 1 cs) (hp : PredI Tryz.prog w g fst cap cs p) (hn : n ≤ 9223372036854775806) : Ret Tryz.prog 78 [.slice a n c, .func (.func g) ⟨fst⟩ ⟨cap⟩] w (fun v w' => v = .bool ((List.range n).all p) ∧ Ext w w') := by
 have hB := Below.refl w.heap.size w
 have hsz : w.heap.size ≤ w.heap.size := Nat.le_refl _
 refine ret_of_runs (args := [_, _]) Tryz.func78 rfl (Nat.le_of_ble_eq_true rfl) (by kernel_rfl) (r_seq (r_region' (l_o (o_box rfl rfl rfl ?_))))
 intro b1 w1 hzl1 hzr1 _ hb1 hE1
 have hbs_b1 : w.heap.size ≤ b1 := Nat.le_trans hsz hzl1
 replace hB := below_ext hB hE1 hsz
 replace hsz := Nat.le_trans hsz hE1.size
 refine l_q (qab rfl rfl) (l_nil (r_seq (r_region' (l_q (qms rfl rfl) (l_q (q_makeFunc (v := .func _ ⟨[]⟩ ⟨[_]⟩) rfl rfl) (l_o (o_call Tryz.call114 rfl (containsFunc_string_ret _ _ _ _ 115 [] [ptr b1 0] (fun i => !p i) _ (hrow.below hB) (all1_string_pred hb1 (hp.ext (Ext.of_below hB))) hn) rfl ?_)))))))
 rintro _ w2 ⟨rfl, hE2⟩
 replace hB := below_ext hB hE2 hsz
 replace hsz := Nat.le_trans hsz hE2.size
 refine l_q (q_not rfl rfl) (l_q (qab rfl rfl) (l_nil (r_ret_ (vs := [.bool _]) rfl Tryz.func78 rfl (.nil _) ⟨rfl, trivial⟩ ?_)))
 exact ⟨vbool_eq (by rw [List.all_eq_not_any_not]), Ext.of_below hB⟩
theorem all_string_of {α : Type} {f : α → Value} {xs : List α} (d : α) {q : α → Bool} {w : World} {a : Option Addr} {c : Nat} {g : FuncId} {fst cap : List Value} (hin : ∀ args w, (callFunc g args).run Tryz.prog w = .ok (.enter g args) w)
    (hrow : Row w a xs.length c 1 (xs.map f)) (h : ∀ w', Ext w w' → ∀ x ∈ xs, Ret Tryz.prog g (fst ++ [f x] ++ cap) w' (fun r w'' => r = .bool (q x) ∧ Ext w' w'')) (hn : xs.length ≤ 9223372036854775806) :
    Ret Tryz.prog 78 [.slice a xs.length c, .func (.func g) ⟨fst⟩ ⟨cap⟩] w (fun v w' => v = .bool (xs.all q) ∧ Ext w w') :=
  (all_string_ret _ _ _ _ _ _ _ _ _ hrow (predI_of d hin h) hn).mono (fun v w' hx => ⟨by rw [hx.1, range_all xs d q], hx.2⟩)
theorem all1_int_ret (b : Nat) (g : FuncId) (fst cap cs : List Value) (p : Nat → Bool) (i : Nat) (v : Value) (w : World) (hb : Blk w b [.func (.func g) ⟨fst⟩ ⟨cap⟩]) (hp : PredI Tryz.prog w g fst cap cs p) (hv : cs[i]? = some v) : Ret Tryz.prog 151 [v, ptr b 0] w (fun v w' => v = .bool (!p i) ∧ Ext w w') := by
 have hbl := hb.lt
 have hB := Below.refl w.heap.size w
 have hsz : w.heap.size ≤ w.heap.size := Nat.le_refl _
 refine ret_of_runs (args := [_, _]) Tryz.func151 rfl (Nat.le_of_ble_eq_true rfl) (by kernel_rfl) (r_seq (r_region' (l_q (qab rfl rfl) (l_nil (r_seq (r_region' (l_q (q_load Tryz.isAgg82 rfl (((hb.below hB (by omega)).has (o := 0) rfl)) rfl) (l_q (q_move (v := v) rfl rfl) (l_o (o_callv (f := g) (fst := fst) (cap := cap) rfl hp.1 rfl (hp.2 _ (Ext.of_below hB) i _ hv) rfl ?_))))))))))
 rintro _ w1 ⟨rfl, hE1⟩
 replace hB := below_ext hB hE1 hsz
 replace hsz := Nat.le_trans hsz hE1.size
 refine l_q (q_not rfl rfl) (l_q (qab rfl rfl) (l_nil (r_ret_ (vs := [.bool _]) rfl Tryz.func151 rfl (.nil _) ⟨rfl, trivial⟩ ?_)))
 exact ⟨rfl, Ext.of_below hB⟩
theorem all1_int_pred {w : World} {b : Nat} {g : FuncId} {fst cap cs : List Value} {p : Nat → Bool} (hb : Blk w b [.func (.func g) ⟨fst⟩ ⟨cap⟩]) (hp : PredI Tryz.prog w g fst cap cs p) :
    PredI Tryz.prog w 151 [] [ptr b 0] cs (fun i => !p i) :=
  ⟨Tryz.call151, fun w' hw i v hv => all1_int_ret _ _ _ _ _ _ _ _ _ (hb.ext hw) (hp.ext hw) hv⟩
theorem all_int_ret (a : Option Addr) (n c : Nat) (cs : List Value) (g : FuncId) (fst cap : List Value) (p : Nat → Bool) (w : World) (hrow : Row w a n c 1 cs) (hp : PredI Tryz.prog w g fst cap cs p) (hn : n ≤ 9223372036854775806) : Ret Tryz.prog 117 [.slice a n c, .func (.func g) ⟨fst⟩ ⟨cap⟩] w (fun v w' => v = .bool ((List.range n).all p) ∧ Ext w w') := by
 have hB := Below.refl w.heap.size w
 have hsz : w.heap.size ≤ w.heap.size := Nat.le_refl _
 refine ret_of_runs (args := [_, _]) Tryz.func117 rfl (Nat.le_of_ble_eq_true rfl) (by kernel_rfl) (r_seq (r_region' (l_o (o_box rfl rfl rfl ?_))))
 intro b1 w1 hzl1 hzr1 _ hb1 hE1
 have hbs_b1 : w.heap.size ≤ b1 := Nat.le_trans hsz hzl1
 replace hB := below_ext hB hE1 hsz
 replace hsz := Nat.le_trans hsz hE1.size
 refine l_q (qab rfl rfl) (l_nil (r_seq (r_region' (l_q (qms rfl rfl) (l_q (q_makeFunc (v := .func _ ⟨[]⟩ ⟨[_]⟩) rfl rfl) (l_o (o_call Tryz.call72 rfl (containsFunc_int_ret _ _ _ _ 151 [] [ptr b1 0] (fun i => !p i) _ (hrow.below hB) (all1_int_pred hb1 (hp.ext (Ext.of_below hB))) hn) rfl ?_)))))))
 rintro _ w2 ⟨rfl, hE2⟩
 replace hB := below_ext hB hE2 hsz
 replace hsz := Nat.le_trans hsz hE2.size
 refine l_q (q_not rfl rfl) (l_q (qab rfl rfl) (l_nil (r_ret_ (vs := [.bool _]) rfl Tryz.func117 rfl (.nil _) ⟨rfl, trivial⟩ ?_)))
 exact ⟨vbool_eq (by rw [List.all_eq_not_any_not]), Ext.of_below hB⟩
theorem all_int_of {α : Type} {f : α → Value} {xs : List α} (d : α) {q : α → Bool} {w : World} {a : Option Addr} {c : Nat} {g : FuncId} {fst cap : List Value} (hin : ∀ args w, (callFunc g args).run Tryz.prog w = .ok (.enter g args) w)
    (hrow : Row w a xs.length c 1 (xs.map f)) (h : ∀ w', Ext w w' → ∀ x ∈ xs, Ret Tryz.prog g (fst ++ [f x] ++ cap) w' (fun r w'' => r = .bool (q x) ∧ Ext w' w'')) (hn : xs.length ≤ 9223372036854775806) :
    Ret Tryz.prog 117 [.slice a xs.length c, .func (.func g) ⟨fst⟩ ⟨cap⟩] w (fun v w' => v = .bool (xs.all q) ∧ Ext w w') :=
  (all_int_ret _ _ _ _ _ _ _ _ _ hrow (predI_of d hin h) hn).mono (fun v w' hx => ⟨by rw [hx.1, range_all xs d q], hx.2⟩)
theorem checkSigns1_ret (s : List UInt8) (w : World) : Ret Tryz.prog 153 [vstr s] w (fun v w' => v = .bool (decide ((s.length : Int) ≤ 40)) ∧ w = w') := by
 have hB := Below.refl w.heap.size w
 have hsz : w.heap.size ≤ w.heap.size := Nat.le_refl _
 refine ret_of_runs (args := [_]) Tryz.func153 rfl (Nat.le_of_ble_eq_true rfl) (by kernel_rfl) (r_seq (r_region' (l_q (qab rfl rfl) (l_nil (r_seq (r_region' (l_q (q_move (v := .string _) rfl rfl) (l_q (q_len_str rfl Tryz.underlying9 rfl rfl) (l_q (q_leq rfl rfl rfl) (l_q (qab rfl rfl) (l_nil (r_ret_ (vs := [.bool _]) rfl Tryz.func153 rfl (.nil _) ⟨rfl, trivial⟩ ?_))))))))))))
 exact ⟨rfl, rfl⟩
theorem send1_ret (b : Nat) (a : Option Addr) (m c : Nat) (n : Int) (w : World) (hb : Blk w b [.slice a m c]) (hm : m ≤ 9223372036854775806) : Ret Tryz.prog 118 [vint n, ptr b 0] w (fun v w' => v = .bool (decide (0 ≤ n) && decide (n ≤ (m : Int) - 1)) ∧ w = w') := by
 have hbl := hb.lt
 have hB := Below.refl w.heap.size w
 have hsz : w.heap.size ≤ w.heap.size := Nat.le_refl _
 refine ret_of_runs (args := [_, _]) Tryz.func118 rfl (Nat.le_of_ble_eq_true rfl) (by kernel_rfl) (r_seq (r_region' (l_q (qab rfl rfl) (l_nil (r_seq (r_region' (l_q (qmi rfl rfl) (l_q (q_fieldAddr (o' := 0) rfl fld38_0 rfl) (l_q (q_load Tryz.isAgg28 rfl (((hb.below hB (by omega)).has (o := 0) rfl)) rfl) (l_q (q_len rfl Tryz.underlying28 rfl rfl) (l_q (q_sub rfl rfl (by omega) rfl) (l_o (o_call Tryz.call111 rfl (within_ret _ _ _ _) rfl ?_)))))))))))))
 rintro _ w1 ⟨rfl, rfl⟩
 refine l_q (qab rfl rfl) (l_nil (r_ret_ (vs := [.bool _]) rfl Tryz.func118 rfl (.nil _) ⟨rfl, trivial⟩ ?_))
 exact ⟨rfl, rfl⟩
theorem letter_ret (bs s : List UInt8) (m : Int) (w : World) (hs : s.length ≤ 9223372036854775806) : Ret Tryz.prog 77 [.agg ⟨[vstr bs, vint m]⟩, vstr s] w (fun v w' => v = .bool (okL bs m s) ∧ Ext w w') := by
 have hB := Below.refl w.heap.size w
 have hsz : w.heap.size ≤ w.heap.size := Nat.le_refl _
 refine ret_of_runs (args := [_, _]) Tryz.func77 rfl (Nat.le_of_ble_eq_true rfl) (by kernel_rfl) (r_seq (r_region' (l_o (o_box rfl rfl rfl ?_))))
 intro b1 w1 hzl1 hzr1 _ hb1 hE1
 have hbs_b1 : w.heap.size ≤ b1 := Nat.le_trans hsz hzl1
 replace hB := below_ext hB hE1 hsz
 replace hsz := Nat.le_trans hsz hE1.size
 refine l_q (qab rfl rfl) (l_nil (r_seq (r_region' (l_q (q_move (v := .string _) rfl rfl) (l_q (q_len_str rfl Tryz.underlying9 rfl rfl) (l_q (q_fieldAddr (o' := 1) rfl fld149_1 rfl) (l_q (q_load Tryz.isAgg3 rfl ((hb1.has (o := 1) rfl)) rfl) (l_o (o_call Tryz.call111 rfl (within_ret _ _ _ _) rfl ?_)))))))))
 rintro _ w2 ⟨rfl, rfl⟩
 refine l_q (qmb rfl rfl) (l_part 10 rfl (fun hc3 => ?_) (fun hc3 => ?_))
 ·
  replace hc3 := b2t hc3
  refine l_q (q_move (v := .string _) rfl rfl) (l_o (o_toBytesB Tryz.underlying9 Tryz.underlying169 Tryz.underlying5 rfl rfl ?_))
  intro b4 c4 w4 hzl4 hzr4 hr4 hE4
  have hbs_b4 : w.heap.size ≤ b4 := Nat.le_trans hsz hzl4
  replace hB := below_ext hB hE4 hsz
  replace hb1 := hb1.ext hE4
  replace hsz := Nat.le_trans hsz hE4.size
  refine l_q (q_load_agg (n := 2) Tryz.isAgg149 Tryz.sizeOf149 rfl ((hb1.cells' (cs' := [_, _]) 0 2 rfl)) rfl rfl) (l_q (q_makeFunc (v := .func _ ⟨[_]⟩ ⟨[]⟩) rfl rfl) (l_o (o_call Tryz.call112 rfl (all_byte_of 0 Tryz.call113 hr4 (fun w' hw x _ => has_ret _ _ _ _) (by omega)) rfl ?_)))
  rintro _ w5 ⟨rfl, hE5⟩
  replace hB := below_ext hB hE5 hsz
  replace hsz := Nat.le_trans hsz hE5.size
  refine l_q (q_pick_t (v := .bool _) rfl rfl rfl) (l_q (qab rfl rfl) (l_nil (r_forget [(4, .bool _)] ⟨rfl, trivial⟩ (fun e6 => (r_ret_ (vs := [.bool _]) rfl Tryz.func77 rfl (.nil _) ⟨rfl, trivial⟩ ?_)))))
  exact ⟨vbool_eq (by unfold okL; by_cases h1 : 1 ≤ (s.length : Int) <;> by_cases h2 : (s.length : Int) ≤ m <;> first | (simp only [h1, h2, decide_true, decide_false, Bool.true_and, Bool.false_and, Bool.and_false]; done) | omega), Ext.of_below hB⟩
 ·
  replace hc3 := b2f hc3
  refine l_q (q_skip rfl) (l_q (q_skip rfl) (l_q (q_skip rfl) (l_q (q_skip rfl) (l_q (q_skip rfl) (l_q (q_pick_f (v := .bool _) rfl rfl rfl) (l_q (qab rfl rfl) (l_nil (r_forget [(4, .bool _)] ⟨rfl, trivial⟩ (fun e7 => (r_ret_ (vs := [.bool _]) rfl Tryz.func77 rfl (.nil _) ⟨rfl, trivial⟩ ?_))))))))))
  exact ⟨vbool_eq (by unfold okL; by_cases h1 : 1 ≤ (s.length : Int) <;> by_cases h2 : (s.length : Int) ≤ m <;> first | (simp only [h1, h2, decide_true, decide_false, Bool.true_and, Bool.false_and, Bool.and_false]; done) | omega), Ext.of_below hB⟩
theorem checkSigns2_ret (b : Nat) (bs s : List UInt8) (m : Int) (w : World) (hb : Blk w b [.func (.func 113) ⟨[.agg ⟨[vstr bs, vint m]⟩]⟩ ⟨[]⟩]) (hs : s.length ≤ 9223372036854775806) : Ret Tryz.prog 154 [vstr s, ptr b 0] w (fun v w' => v = .bool (s.all (fun b => bs.contains b)) ∧ Ext w w') := by
 have hbl := hb.lt
 have hB := Below.refl w.heap.size w
 have hsz : w.heap.size ≤ w.heap.size := Nat.le_refl _
 refine ret_of_runs (args := [_, _]) Tryz.func154 rfl (Nat.le_of_ble_eq_true rfl) (by kernel_rfl) (r_seq (r_region' (l_q (qab rfl rfl) (l_nil (r_seq (r_region' (l_q (q_move (v := .string _) rfl rfl) (l_o (o_toBytesB Tryz.underlying9 Tryz.underlying169 Tryz.underlying5 rfl rfl ?_)))))))))
 intro b1 c1 w1 hzl1 hzr1 hr1 hE1
 have hbs_b1 : w.heap.size ≤ b1 := Nat.le_trans hsz hzl1
 replace hB := below_ext hB hE1 hsz
 replace hsz := Nat.le_trans hsz hE1.size
 refine l_q (q_load Tryz.isAgg170 rfl (((hb.below hB (by omega)).has (o := 0) rfl)) rfl) (l_o (o_call Tryz.call112 rfl (all_byte_of 0 Tryz.call113 hr1 (fun w' hw x _ => has_ret _ _ _ _) (by omega)) rfl ?_))
 rintro _ w2 ⟨rfl, hE2⟩
 replace hB := below_ext hB hE2 hsz
 replace hsz := Nat.le_trans hsz hE2.size
 refine l_q (qab rfl rfl) (l_nil (r_ret_ (vs := [.bool _]) rfl Tryz.func154 rfl (.nil _) ⟨rfl, trivial⟩ ?_))
 exact ⟨rfl, Ext.of_below hB⟩
theorem index_str_ret (a : Option Addr) (c : Nat) (xs : List (List UInt8)) (s : List UInt8) (w : World) (hrow : Row w a xs.length c 1 (xs.map vstr)) (hn : xs.length ≤ 9223372036854775806) : Ret Tryz.prog 116 [.slice a xs.length c, vstr s] w (fun v w' => v = vint (idxI (fun i => decide (s = xs.getD i [])) xs.length) ∧ w = w') := by
 have hB := Below.refl w.heap.size w
 have hsz : w.heap.size ≤ w.heap.size := Nat.le_refl _
 refine ret_of_runs (args := [_, _]) Tryz.func116 rfl (Nat.le_of_ble_eq_true rfl) (by kernel_rfl) (r_seq (r_region' (l_q (qai rfl rfl) (l_nil (r_seq (r_seq (r_region' (l_q (qms rfl rfl) (l_q (q_len rfl Tryz.underlying28 rfl rfl) (l_q (qmi rfl rfl) (l_nil (r_block (r_rounds (α := Nat) (fun k e wl => Knows e [(0, .slice a xs.length c), (1, vstr s), (7, vint (xs.length : Int)), (8, vint (k : Int))] ∧ (k ≤ xs.length) ∧ (∀ i, i < k → decide (s = xs.getD i []) = false) ∧ (w = wl)) (fun k => xs.length - k) 0 ?_ ?_)))))))))))))
 ·
  exact ⟨⟨rfl, rfl, rfl, rfl, trivial⟩, (Nat.zero_le _), (fun i hi => absurd hi (Nat.not_lt_zero _)), rfl⟩
 ·
  rintro k el1 wl1 ⟨hkn, hk, hno, rfl⟩ ih1
  obtain ⟨e1, rfl⟩ := knows_env hkn
  refine r_seq (r_region' (l_q (q_lss rfl rfl rfl) (l_nil (r_seq (r_cond rfl (fun hc2 => ?_) (fun hc2 => ?_))))))
  ·
   replace hc2 := dt hc2
   refine r_skip (r_seq (r_block (r_seq (r_region' (l_q (qmi rfl rfl) (l_q (qai rfl rfl) (l_nil (r_seq (r_region' (l_q (q_move (v := .string _) rfl rfl) (l_q (qms rfl rfl) (l_q (qmi rfl rfl) ?_))))))))))))
   obtain ⟨b3, o3, ha3, hh3⟩ := (hrow.below hB).at1 k ((xs).getD k []) (getD_some (by omega))
   refine l_q (q_indexAddr1 Tryz.underlying28 Tryz.sizeOf9 rfl ha3 rfl (by omega) rfl) (l_q (q_load Tryz.isAgg9 rfl (hh3) rfl) (l_q (q_eql_str rfl rfl rfl) (l_nil (r_cond rfl (fun hc4 => ?_) (fun hc4 => ?_)))))
   ·
    replace hc4 := dt hc4
    refine r_seq (r_region' (l_q (qmi rfl rfl) (l_q (qai rfl rfl) (l_nil (r_forget [(4, .int _ _)] ⟨rfl, trivial⟩ (fun e5 => (r_ret_ (vs := [.int _ _]) rfl Tryz.func116 rfl (.nil _) ⟨rfl, trivial⟩ ?_)))))))
    exact ⟨vint_eq (idxI_found (by omega) (by simpa using (by assumption : s = xs.getD k [])) hno).symm, rfl⟩
   ·
    replace hc4 := df hc4
    have hcneg := hc4
    refine r_skip (r_inBlock (r_region' (l_q (q_add rfl rfl (by omega) rfl) (l_q (qmi rfl rfl) (l_nil (r_forget [(0, .slice _ _ _), (1, .string _), (7, .int _ _), (8, .int _ _)] ⟨rfl, rfl, rfl, rfl, trivial⟩ (fun e6 => ?_)))))))
    exact ih1 (k + 1) _ _ ⟨⟨rfl, rfl, rfl, by first | rfl | exact vint_eq (by omega), trivial⟩, (by omega), (fun i hi => by rcases Nat.lt_succ_iff_lt_or_eq.1 hi with h | h; exact hno i h; subst h; simpa using hcneg), rfl⟩ (by first | omega | (dsimp only; omega))
  ·
   replace hc2 := dlt hc2
   refine r_exit rfl (r_seq (r_region' (l_q (qai rfl rfl) (l_nil (r_ret_ (vs := [.int _ _]) rfl Tryz.func116 rfl (.nil _) ⟨rfl, trivial⟩ ?_)))))
   exact ⟨vint_eq (idxI_none (fun i hi => hno i (by omega))).symm, rfl⟩
theorem contains_str_ret (a : Option Addr) (c : Nat) (xs : List (List UInt8)) (s : List UInt8) (w : World) (hrow : Row w a xs.length c 1 (xs.map vstr)) (hn : xs.length ≤ 9223372036854775806) : Ret Tryz.prog 79 [.slice a xs.length c, vstr s] w (fun v w' => v = .bool (xs.contains s) ∧ w = w') := by
 have hB := Below.refl w.heap.size w
 have hsz : w.heap.size ≤ w.heap.size := Nat.le_refl _
 refine ret_of_runs (args := [_, _]) Tryz.func79 rfl (Nat.le_of_ble_eq_true rfl) (by kernel_rfl) (r_seq (r_region' (l_q (qab rfl rfl) (l_nil (r_seq (r_region' (l_q (qms rfl rfl) (l_q (q_move (v := .string _) rfl rfl) (l_o (o_call Tryz.call116 rfl (index_str_ret _ _ _ _ _ (hrow.below hB) hn) rfl ?_))))))))))
 rintro _ w1 ⟨rfl, rfl⟩
 refine l_q (q_geq rfl rfl rfl) (l_q (qab rfl rfl) (l_nil (r_ret_ (vs := [.bool _]) rfl Tryz.func79 rfl (.nil _) ⟨rfl, trivial⟩ ?_)))
 exact ⟨vbool_eq (by rw [idxI_nonneg, range_any xs [] (fun x => decide (s = x)), any_eq_contains]), rfl⟩
end Go.Proofs.YtbikicakdkbcgacGreat
