/- Contracts. -/
import Derived.Test.YtfbjllabgkabkaaC1
import Derived.Test.YtfbjllabgkabkaaGvB
import Derived.Test.YtfbjllabgkabkaaF20
set_option linter.unusedVariables false
set_option linter.unusedSimpArgs false
namespace Go.Proofs.Ytfbjllabgkabkaa
open Go Go.RowKit Go.Gv Go.Fl

structure K3 where
  m : Int
  a : Int
  s : Int
abbrev K3.enc (k : K3) : List Value := [vint k.m, vint k.a, vint k.s]
def k0 : K3 := ⟨0, 0, 0⟩
theorem K3.len (k : K3) : k.enc.length = 3 := rfl
theorem K3.one (k : K3) : k.enc.all Value.oneCell' = true := rfl
def PRL : List Int := [13, 17, 19, 23, 29, 31, 37, 41]
def BookOk (S W : Int) (ks : List K3) (ds : List Int) : Prop :=
  (PRL.contains S = true ∧ 1 ≤ W ∧ W ≤ S) ∧ (ks ≠ [] ∧ ks.length ≤ 5) ∧ (ds ≠ [] ∧ ds.length ≤ 8) ∧ (∀ k ∈ ks, keyOk S k.m k.a k.s = true) ∧ (∀ d ∈ ds, 0 ≤ d ∧ d ≤ (ks.length : Int) - 1)
theorem prS {S : Int} (h : PRL.contains S = true) : 13 ≤ S ∧ S ≤ 41 := by
  have : S ∈ PRL := by simpa using h
  simp [PRL] at this
  omega
theorem prS_cases {p : Int → Prop} {S : Int} (h : PRL.contains S = true) (hp : ∀ x ∈ PRL, p x) : p S := hp S (by simpa using h)
theorem prS_prime {S : Int} (h : PRL.contains S = true) : primeI S = true := prS_cases (p := fun S => primeI S = true) h (by decide +kernel)
theorem inS_iff {S n : Int} : inS S n = true ↔ 0 ≤ n ∧ n ≤ S - 1 := by unfold inS; simp
theorem keyOk_iff {S m a s : Int} : keyOk S m a s = true ↔ (1 ≤ m ∧ m ≤ S - 1) ∧ (0 ≤ a ∧ a ≤ S - 1) ∧ 0 ≤ s ∧ s ≤ S - 1 := by
  unfold keyOk; rw [Bool.and_eq_true, Bool.and_eq_true, inS_iff, inS_iff]; simp [and_assoc]
theorem all_get {α : Type} {l : List α} (d : α) {p : α → Prop} (h : ∀ j, j < l.length → p (l.getD j d)) : ∀ x ∈ l, p x := by
  intro x hx
  obtain ⟨i, hi, rfl⟩ := List.mem_iff_getElem.1 hx
  have := h i hi
  rwa [List.getD_eq_getElem?_getD, List.getElem?_eq_getElem hi] at this
theorem k_take {ks : List K3} {k : Nat} (h : k < ks.length) : ks.take k ++ [⟨(ks.getD k k0).m, (ks.getD k k0).a, (ks.getD k k0).s⟩] = ks.take (k + 1) := by
  rw [List.take_add_one, List.getElem?_eq_getElem h, List.getD_eq_getElem?_getD, List.getElem?_eq_getElem h]; rfl

theorem fld41_1 (w : World) (b o : Nat) : (Instr.fieldAt 41 (ptr b o) 1).run Try.prog w = .ok (ptr b (o + 1)) w := by
  simp [Instr.fieldAt, run_underlying Try.underlying41, fieldPlace, Instr.sureAddr, Try.sizeOf3, Addr.add_lit]
theorem fld53_0 (w : World) (b o : Nat) : (Instr.fieldAt 53 (ptr b o) 0).run Try.prog w = .ok (ptr b (o + 0)) w := by
  simp [Instr.fieldAt, run_underlying Try.underlying53, fieldPlace, Instr.sureAddr, Try.sizeOf3, Addr.add_lit]
theorem fld53_1 (w : World) (b o : Nat) : (Instr.fieldAt 53 (ptr b o) 1).run Try.prog w = .ok (ptr b (o + 1)) w := by
  simp [Instr.fieldAt, run_underlying Try.underlying53, fieldPlace, Instr.sureAddr, Try.sizeOf3, Addr.add_lit]
theorem fld53_2 (w : World) (b o : Nat) : (Instr.fieldAt 53 (ptr b o) 2).run Try.prog w = .ok (ptr b (o + 2)) w := by
  simp [Instr.fieldAt, run_underlying Try.underlying53, fieldPlace, Instr.sureAddr, Try.sizeOf3, Addr.add_lit]
theorem fld28_1 (w : World) (b o : Nat) : (Instr.fieldAt 28 (ptr b o) 1).run Try.prog w = .ok (ptr b (o + 1)) w := by
  simp [Instr.fieldAt, run_underlying Try.underlying28, fieldPlace, Instr.sureAddr, Try.sizeOf3, Addr.add_lit]
theorem el54 : Elem Try.prog 54 (.agg ⟨[vint 0, vint 0, vint 0]⟩) 3 24 := elem_of (by kernel_rfl) rfl (by decide)
theorem all1_int_ret (b : Nat) (g : FuncId) (fst cap cs : List Value) (p : Nat → Bool) (i : Nat) (v : Value) (w : World) (hb : Blk w b [.func (.func g) ⟨fst⟩ ⟨cap⟩]) (hp : PredI Try.prog w g fst cap cs p) (hv : cs[i]? = some v) : Ret Try.prog 50 [v, ptr b 0] w (fun v w' => v = .bool (!p i) ∧ Ext w w') := by
  have hbl := hb.lt
  have hB := Below.refl w.heap.size w
  have hsz : w.heap.size ≤ w.heap.size := Nat.le_refl _
  refine ret_of_runs (args := [_, _]) Try.func50 rfl (Nat.le_of_ble_eq_true rfl) (by kernel_rfl) ?_
  refine r_seq ?_
  refine r_region' ?_
  refine l_q (q_assign (v := .bool _) rfl rfl) ?_
  refine l_nil ?_
  refine r_forget [(0, v), (1, .pointer _)] ⟨rfl, rfl, trivial⟩ (fun e1 => ?_)
  refine r_seq ?_
  refine r_region' ?_
  refine l_q (q_load Try.isAgg50 rfl (((hb.below hB (by omega)).has (o := 0) rfl)) rfl) ?_
  refine l_q (q_move (v := v) rfl rfl) ?_
  refine l_o (o_callv (f := g) (fst := fst) (cap := cap) rfl hp.1 rfl (hp.2 _ (Ext.of_below hB) i _ hv) rfl ?_)
  rintro _ w2 ⟨rfl, hE2⟩
  replace hB := below_ext hB hE2 hsz
  replace hsz := Nat.le_trans hsz hE2.size
  refine l_q (q_not rfl rfl) ?_
  refine l_q (q_assign (v := .bool _) rfl rfl) ?_
  refine l_nil ?_
  refine r_forget [(3, .bool _)] ⟨rfl, trivial⟩ (fun e3 => ?_)
  refine r_ret_ (vs := [.bool _]) rfl Try.func50 rfl (.nil _) ⟨rfl, trivial⟩ ?_
  exact ⟨rfl, Ext.of_below hB⟩
theorem all1_int_pred {w : World} {b : Nat} {g : FuncId} {fst cap cs : List Value} {p : Nat → Bool} (hb : Blk w b [.func (.func g) ⟨fst⟩ ⟨cap⟩]) (hp : PredI Try.prog w g fst cap cs p) :
    PredI Try.prog w 50 [] [ptr b 0] cs (fun i => !p i) :=
  ⟨Try.call50, fun w' hw i v hv => all1_int_ret _ _ _ _ _ _ _ _ _ (hb.ext hw) (hp.ext hw) hv⟩
theorem all_int_ret (a : Option Addr) (n c : Nat) (cs : List Value) (g : FuncId) (fst cap : List Value) (p : Nat → Bool) (w : World) (hrow : Row w a n c 1 cs) (hp : PredI Try.prog w g fst cap cs p) (hn : n ≤ 9223372036854775806) : Ret Try.prog 22 [.slice a n c, .func (.func g) ⟨fst⟩ ⟨cap⟩] w (fun v w' => v = .bool ((List.range n).all p) ∧ Ext w w') := by
  have hB := Below.refl w.heap.size w
  have hsz : w.heap.size ≤ w.heap.size := Nat.le_refl _
  refine ret_of_runs (args := [_, _]) Try.func22 rfl (Nat.le_of_ble_eq_true rfl) (by kernel_rfl) ?_
  refine r_seq ?_
  refine r_region' ?_
  refine l_o (o_box rfl rfl rfl ?_)
  intro b1 w1 hzl1 hzr1 _ hb1 hE1
  have hbs_b1 : w.heap.size ≤ b1 := Nat.le_trans hsz hzl1
  replace hB := below_ext hB hE1 hsz
  replace hsz := Nat.le_trans hsz hE1.size
  refine l_q (q_assign (v := .bool _) rfl rfl) ?_
  refine l_nil ?_
  refine r_forget [(0, .slice _ _ _), (3, .pointer _)] ⟨rfl, rfl, trivial⟩ (fun e2 => ?_)
  refine r_seq ?_
  refine r_region' ?_
  refine l_q (q_move (v := .slice _ _ _) rfl rfl) ?_
  refine l_q (q_makeFunc (v := .func _ ⟨[]⟩ ⟨[_]⟩) rfl rfl) ?_
  refine l_o (o_call Try.call49 rfl (containsFunc_int_ret _ _ _ _ 50 [] [ptr b1 0] (fun i => !p i) _ (hrow.below hB) (all1_int_pred hb1 (hp.ext (Ext.of_below hB))) hn) rfl ?_)
  rintro _ w3 ⟨rfl, hE3⟩
  replace hB := below_ext hB hE3 hsz
  replace hb1 := hb1.ext hE3
  replace hsz := Nat.le_trans hsz hE3.size
  refine l_q (q_not rfl rfl) ?_
  refine l_q (q_assign (v := .bool _) rfl rfl) ?_
  refine l_nil ?_
  refine r_forget [(4, .bool _)] ⟨rfl, trivial⟩ (fun e4 => ?_)
  refine r_ret_ (vs := [.bool _]) rfl Try.func22 rfl (.nil _) ⟨rfl, trivial⟩ ?_
  exact ⟨vbool_eq (by rw [List.all_eq_not_any_not]), Ext.of_below hB⟩
theorem all_int_of {α : Type} {f : α → Value} {xs : List α} (d : α) {q : α → Bool} {w : World} {a : Option Addr} {c : Nat} {g : FuncId} {fst cap : List Value} (hin : ∀ args w, (callFunc g args).run Try.prog w = .ok (.enter g args) w)
    (hrow : Row w a xs.length c 1 (xs.map f)) (h : ∀ w', Ext w w' → ∀ x ∈ xs, Ret Try.prog g (fst ++ [f x] ++ cap) w' (fun r w'' => r = .bool (q x) ∧ Ext w' w'')) (hn : xs.length ≤ 9223372036854775806) :
    Ret Try.prog 22 [.slice a xs.length c, .func (.func g) ⟨fst⟩ ⟨cap⟩] w (fun v w' => v = .bool (xs.all q) ∧ Ext w w') :=
  (all_int_ret _ _ _ _ _ _ _ _ _ hrow (predI_of d hin h) hn).mono (fun v w' hx => ⟨by rw [hx.1, range_all xs d q], hx.2⟩)
theorem indexFunc_key_ret (a : Option Addr) (c : Nat) (xs : List K3) (g : FuncId) (fst cap : List Value) (q : K3 → Bool) (w : World) (hrow : Row w a xs.length c 3 (xs.flatMap K3.enc)) (hin : ∀ args w, (callFunc g args).run Try.prog w = .ok (.enter g args) w) (hp : ∀ w', Ext w w' → ∀ x ∈ xs, Ret Try.prog g (fst ++ [.agg ⟨K3.enc x⟩] ++ cap) w' (fun r w'' => r = .bool (q x) ∧ Ext w' w'')) (hn : xs.length ≤ 9223372036854775806) : Ret Try.prog 78 [.slice a xs.length c, .func (.func g) ⟨fst⟩ ⟨cap⟩] w (fun v w' => v = vint (idxI (fun i => q (xs.getD i k0)) xs.length) ∧ Ext w w') := by
  have hB := Below.refl w.heap.size w
  have hsz : w.heap.size ≤ w.heap.size := Nat.le_refl _
  refine ret_of_runs (args := [_, _]) Try.func78 rfl (Nat.le_of_ble_eq_true rfl) (by kernel_rfl) ?_
  refine r_seq ?_
  refine r_region' ?_
  refine l_q (q_assign (v := .int _ _) rfl rfl) ?_
  refine l_nil ?_
  refine r_forget [(0, .slice _ _ _), (1, .func _ _ _)] ⟨rfl, rfl, trivial⟩ (fun e1 => ?_)
  refine r_seq ?_
  refine r_seq ?_
  refine r_region' ?_
  refine l_q (q_move (v := .slice _ _ _) rfl rfl) ?_
  refine l_q (q_len rfl Try.underlying39 rfl rfl) ?_
  refine l_q (q_move (v := .int _ _) rfl rfl) ?_
  refine l_nil ?_
  refine r_forget [(0, .slice _ _ _), (1, .func _ _ _), (7, .int _ _), (8, .int _ _)] ⟨rfl, rfl, rfl, rfl, trivial⟩ (fun e2 => ?_)
  refine r_block ?_
  refine r_rounds (α := Nat) (fun k e wl => Knows e [(0, .slice a xs.length c), (1, .func (.func g) ⟨fst⟩ ⟨cap⟩), (7, vint (xs.length : Int)), (8, vint (k : Int))] ∧ (k ≤ xs.length) ∧ (∀ i, i < k → q (xs.getD i k0) = false) ∧ (w.heap.size ≤ wl.heap.size) ∧ (Below w.heap.size w wl)) (fun k => xs.length - k) 0 ?_ ?_
  · skip
    exact ⟨⟨rfl, rfl, rfl, rfl, trivial⟩, (Nat.zero_le _), (fun i hi => absurd hi (Nat.not_lt_zero _)), hsz, hB⟩
  · skip
    rintro k el3 wl3 ⟨hkn, hk, hno, hsz, hB⟩ ih3
    obtain ⟨e3, rfl⟩ := knows_env hkn
    refine r_seq ?_
    refine r_region' ?_
    refine l_q (q_lss rfl rfl rfl) ?_
    refine l_nil ?_
    refine r_seq ?_
    refine r_cond rfl (fun hc4 => ?_) (fun hc4 => ?_)
    · skip
      try simp only [decide_eq_true_eq, decide_eq_false_iff_not, Bool.not_eq_true', Bool.not_eq_false', Bool.not_not, Bool.not_true, Bool.not_false, Bool.not_eq_true, Bool.not_eq_false, Int.not_lt, Int.not_le, Bool.and_eq_true, Bool.or_eq_true, Bool.and_eq_false_iff, Bool.or_eq_false_iff] at hc4
      refine r_skip ?_
      refine r_seq ?_
      refine r_block ?_
      refine r_seq ?_
      refine r_region' ?_
      refine l_q (q_move (v := .int _ _) rfl rfl) ?_
      refine l_q (q_assign (v := .int _ _) rfl rfl) ?_
      refine l_nil ?_
      refine r_forget [(0, .slice _ _ _), (1, .func _ _ _), (5, .int _ _), (7, .int _ _), (8, .int _ _)] ⟨rfl, rfl, rfl, rfl, rfl, trivial⟩ (fun e5 => ?_)
      refine r_seq ?_
      refine r_region' ?_
      refine l_q (q_move (v := .func _ _ _) rfl rfl) ?_
      refine l_q (q_move (v := .slice _ _ _) rfl rfl) ?_
      refine l_q (q_move (v := .int _ _) rfl rfl) ?_
      obtain ⟨b6, o6, ha6, hh6⟩ := (hrow.below hB).at (by decide) k (by omega)
      refine l_q (q_indexAddr Try.underlying39 Try.sizeOf54 rfl ha6 rfl (by omega) rfl) ?_
      refine l_q (q_load_agg (cs := [vint (((xs).getD k k0).m), vint (((xs).getD k k0).a), vint (((xs).getD k k0).s)]) (n := 3) Try.isAgg54 Try.sizeOf54 rfl ((cells_cast (wide_at K3.len k0 _ _ (by omega)) hh6)) rfl rfl) ?_
      refine l_o (o_callv (f := g) (fst := fst) (cap := cap) rfl hin rfl (hp _ (Ext.of_below hB) _ (getD_lt (d := k0) (i := k) (by omega))) rfl ?_)
      rintro _ w7 ⟨rfl, hE7⟩
      replace hB := below_ext hB hE7 hsz
      replace hsz := Nat.le_trans hsz hE7.size
      refine l_nil ?_
      refine r_forget [(0, .slice _ _ _), (1, .func _ _ _), (5, .int _ _), (7, .int _ _), (8, .int _ _), (16, .bool _)] ⟨rfl, rfl, rfl, rfl, rfl, rfl, trivial⟩ (fun e8 => ?_)
      refine r_cond rfl (fun hc9 => ?_) (fun hc9 => ?_)
      · skip
        try simp only [decide_eq_true_eq, decide_eq_false_iff_not, Bool.not_eq_true', Bool.not_eq_false', Bool.not_not, Bool.not_true, Bool.not_false, Bool.not_eq_true, Bool.not_eq_false, Int.not_lt, Int.not_le, Bool.and_eq_true, Bool.or_eq_true, Bool.and_eq_false_iff, Bool.or_eq_false_iff] at hc9
        refine r_seq ?_
        refine r_region' ?_
        refine l_q (q_move (v := .int _ _) rfl rfl) ?_
        refine l_q (q_assign (v := .int _ _) rfl rfl) ?_
        refine l_nil ?_
        refine r_forget [(4, .int _ _)] ⟨rfl, trivial⟩ (fun e10 => ?_)
        refine r_ret_ (vs := [.int _ _]) rfl Try.func78 rfl (.nil _) ⟨rfl, trivial⟩ ?_
        exact ⟨vint_eq (idxI_found (p := (fun i => q (xs.getD i k0))) (by omega) (by assumption) hno).symm, Ext.of_below hB⟩
      · skip
        try simp only [decide_eq_true_eq, decide_eq_false_iff_not, Bool.not_eq_true', Bool.not_eq_false', Bool.not_not, Bool.not_true, Bool.not_false, Bool.not_eq_true, Bool.not_eq_false, Int.not_lt, Int.not_le, Bool.and_eq_true, Bool.or_eq_true, Bool.and_eq_false_iff, Bool.or_eq_false_iff] at hc9
        refine r_skip ?_
        refine r_inBlock ?_
        refine r_region' ?_
        refine l_q (q_add rfl rfl (by omega) rfl) ?_
        refine l_q (q_move (v := .int _ _) rfl rfl) ?_
        refine l_nil ?_
        refine r_forget [(0, .slice _ _ _), (1, .func _ _ _), (7, .int _ _), (8, .int _ _)] ⟨rfl, rfl, rfl, rfl, trivial⟩ (fun e11 => ?_)
        exact ih3 (k + 1) _ _ ⟨⟨rfl, rfl, rfl, by first | rfl | exact vint_eq (by omega), trivial⟩, (by omega), (fun i hi => by rcases Nat.lt_succ_iff_lt_or_eq.1 hi with h | h; exact hno i h; subst h; assumption), hsz, hB⟩ (by first | omega | (dsimp only; omega))
    · skip
      try simp only [decide_eq_true_eq, decide_eq_false_iff_not, Bool.not_eq_true', Bool.not_eq_false', Bool.not_not, Bool.not_true, Bool.not_false, Bool.not_eq_true, Bool.not_eq_false, Int.not_lt, Int.not_le, Bool.and_eq_true, Bool.or_eq_true, Bool.and_eq_false_iff, Bool.or_eq_false_iff] at hc4
      refine r_exit rfl ?_
      refine r_seq ?_
      refine r_region' ?_
      refine l_q (q_assign (v := .int _ _) rfl rfl) ?_
      refine l_nil ?_
      refine r_forget [(4, .int _ _)] ⟨rfl, trivial⟩ (fun e12 => ?_)
      refine r_ret_ (vs := [.int _ _]) rfl Try.func78 rfl (.nil _) ⟨rfl, trivial⟩ ?_
      exact ⟨vint_eq (idxI_none (p := (fun i => q (xs.getD i k0))) (fun i hi => hno i (by omega))).symm, Ext.of_below hB⟩
theorem containsFunc_key_ret (a : Option Addr) (c : Nat) (xs : List K3) (g : FuncId) (fst cap : List Value) (q : K3 → Bool) (w : World) (hrow : Row w a xs.length c 3 (xs.flatMap K3.enc)) (hin : ∀ args w, (callFunc g args).run Try.prog w = .ok (.enter g args) w) (hp : ∀ w', Ext w w' → ∀ x ∈ xs, Ret Try.prog g (fst ++ [.agg ⟨K3.enc x⟩] ++ cap) w' (fun r w'' => r = .bool (q x) ∧ Ext w' w'')) (hn : xs.length ≤ 9223372036854775806) : Ret Try.prog 67 [.slice a xs.length c, .func (.func g) ⟨fst⟩ ⟨cap⟩] w (fun v w' => v = .bool (xs.any q) ∧ Ext w w') := by
  have hB := Below.refl w.heap.size w
  have hsz : w.heap.size ≤ w.heap.size := Nat.le_refl _
  refine ret_of_runs (args := [_, _]) Try.func67 rfl (Nat.le_of_ble_eq_true rfl) (by kernel_rfl) ?_
  refine r_seq ?_
  refine r_region' ?_
  refine l_q (q_assign (v := .bool _) rfl rfl) ?_
  refine l_nil ?_
  refine r_forget [(0, .slice _ _ _), (1, .func _ _ _)] ⟨rfl, rfl, trivial⟩ (fun e1 => ?_)
  refine r_seq ?_
  refine r_region' ?_
  refine l_q (q_move (v := .slice _ _ _) rfl rfl) ?_
  refine l_q (q_move (v := .func _ _ _) rfl rfl) ?_
  refine l_o (o_call Try.call78 rfl (indexFunc_key_ret _ _ _ _ _ _ _ _ (hrow.below hB) hin hp hn) rfl ?_)
  rintro _ w2 ⟨rfl, hE2⟩
  replace hB := below_ext hB hE2 hsz
  replace hsz := Nat.le_trans hsz hE2.size
  refine l_q (q_geq rfl rfl rfl) ?_
  refine l_q (q_assign (v := .bool _) rfl rfl) ?_
  refine l_nil ?_
  refine r_forget [(4, .bool _)] ⟨rfl, trivial⟩ (fun e3 => ?_)
  refine r_ret_ (vs := [.bool _]) rfl Try.func67 rfl (.nil _) ⟨rfl, trivial⟩ ?_
  exact ⟨vbool_eq (by rw [idxI_nonneg, range_any xs k0 q]), Ext.of_below hB⟩
theorem all1_key_ret (b : Nat) (g : FuncId) (fst cap : List Value) (q : K3 → Bool) (x : K3) (w : World) (hb : Blk w b [.func (.func g) ⟨fst⟩ ⟨cap⟩]) (hin : ∀ args w, (callFunc g args).run Try.prog w = .ok (.enter g args) w) (hp : ∀ w', Ext w w' → Ret Try.prog g (fst ++ [.agg ⟨K3.enc x⟩] ++ cap) w' (fun r w'' => r = .bool (q x) ∧ Ext w' w'')) : Ret Try.prog 68 [.agg ⟨[vint x.m, vint x.a, vint x.s]⟩, ptr b 0] w (fun v w' => v = .bool (!q x) ∧ Ext w w') := by
  have hbl := hb.lt
  have hB := Below.refl w.heap.size w
  have hsz : w.heap.size ≤ w.heap.size := Nat.le_refl _
  refine ret_of_runs (args := [_, _]) Try.func68 rfl (Nat.le_of_ble_eq_true rfl) (by kernel_rfl) ?_
  refine r_seq ?_
  refine r_region' ?_
  refine l_o (o_box rfl rfl rfl ?_)
  intro b1 w1 hzl1 hzr1 _ hb1 hE1
  have hbs_b1 : w.heap.size ≤ b1 := Nat.le_trans hsz hzl1
  replace hB := below_ext hB hE1 hsz
  replace hsz := Nat.le_trans hsz hE1.size
  refine l_q (q_assign (v := .bool _) rfl rfl) ?_
  refine l_nil ?_
  refine r_forget [(1, .pointer _), (2, .pointer _)] ⟨rfl, rfl, trivial⟩ (fun e2 => ?_)
  refine r_seq ?_
  refine r_region' ?_
  refine l_q (q_load Try.isAgg84 rfl (((hb.below hB (by omega)).has (o := 0) rfl)) rfl) ?_
  refine l_q (q_load_agg (n := 3) Try.isAgg54 Try.sizeOf54 rfl ((hb1.cells' (cs' := [_, _, _]) 0 3 rfl)) rfl rfl) ?_
  refine l_o (o_callv (f := g) (fst := fst) (cap := cap) rfl hin rfl (hp _ (Ext.of_below hB)) rfl ?_)
  rintro _ w3 ⟨rfl, hE3⟩
  replace hB := below_ext hB hE3 hsz
  replace hb1 := hb1.ext hE3
  replace hsz := Nat.le_trans hsz hE3.size
  refine l_q (q_not rfl rfl) ?_
  refine l_q (q_assign (v := .bool _) rfl rfl) ?_
  refine l_nil ?_
  refine r_forget [(3, .bool _)] ⟨rfl, trivial⟩ (fun e4 => ?_)
  refine r_ret_ (vs := [.bool _]) rfl Try.func68 rfl (.nil _) ⟨rfl, trivial⟩ ?_
  exact ⟨rfl, Ext.of_below hB⟩
theorem all_key_ret (a : Option Addr) (c : Nat) (xs : List K3) (g : FuncId) (fst cap : List Value) (q : K3 → Bool) (w : World) (hrow : Row w a xs.length c 3 (xs.flatMap K3.enc)) (hin : ∀ args w, (callFunc g args).run Try.prog w = .ok (.enter g args) w) (hp : ∀ w', Ext w w' → ∀ x ∈ xs, Ret Try.prog g (fst ++ [.agg ⟨K3.enc x⟩] ++ cap) w' (fun r w'' => r = .bool (q x) ∧ Ext w' w'')) (hn : xs.length ≤ 9223372036854775806) : Ret Try.prog 48 [.slice a xs.length c, .func (.func g) ⟨fst⟩ ⟨cap⟩] w (fun v w' => v = .bool (xs.all q) ∧ Ext w w') := by
  have hB := Below.refl w.heap.size w
  have hsz : w.heap.size ≤ w.heap.size := Nat.le_refl _
  refine ret_of_runs (args := [_, _]) Try.func48 rfl (Nat.le_of_ble_eq_true rfl) (by kernel_rfl) ?_
  refine r_seq ?_
  refine r_region' ?_
  refine l_o (o_box rfl rfl rfl ?_)
  intro b1 w1 hzl1 hzr1 _ hb1 hE1
  have hbs_b1 : w.heap.size ≤ b1 := Nat.le_trans hsz hzl1
  replace hB := below_ext hB hE1 hsz
  replace hsz := Nat.le_trans hsz hE1.size
  refine l_q (q_assign (v := .bool _) rfl rfl) ?_
  refine l_nil ?_
  refine r_forget [(0, .slice _ _ _), (3, .pointer _)] ⟨rfl, rfl, trivial⟩ (fun e2 => ?_)
  refine r_seq ?_
  refine r_region' ?_
  refine l_q (q_move (v := .slice _ _ _) rfl rfl) ?_
  refine l_q (q_makeFunc (v := .func _ ⟨[]⟩ ⟨[_]⟩) rfl rfl) ?_
  refine l_o (o_call Try.call67 rfl (containsFunc_key_ret _ _ xs 68 [] [ptr b1 0] (fun x => !q x) _ (hrow.below hB) Try.call68 (fun w' hw x hx => all1_key_ret _ _ _ _ _ _ _ (hb1.ext hw) hin (fun w'' hw'' => hp _ ((Ext.of_below hB).trans (hw.trans hw'')) x hx)) hn) rfl ?_)
  rintro _ w3 ⟨rfl, hE3⟩
  replace hB := below_ext hB hE3 hsz
  replace hb1 := hb1.ext hE3
  replace hsz := Nat.le_trans hsz hE3.size
  refine l_q (q_not rfl rfl) ?_
  refine l_q (q_assign (v := .bool _) rfl rfl) ?_
  refine l_nil ?_
  refine r_forget [(4, .bool _)] ⟨rfl, trivial⟩ (fun e4 => ?_)
  refine r_ret_ (vs := [.bool _]) rfl Try.func48 rfl (.nil _) ⟨rfl, trivial⟩ ?_
  exact ⟨vbool_eq (by rw [List.all_eq_not_any_not]), Ext.of_below hB⟩
theorem checkBook_ret (S W : Int) (ka : Option Addr) (kc : Nat) (da : Option Addr) (dc : Nat) (ks : List K3) (ds : List Int) (w : World) (hka : Row w ka ks.length kc 3 (ks.flatMap K3.enc)) (hda : Row w da ds.length dc 1 (ds.map vint)) (hok : BookOk S W ks ds) : Ret Try.prog 20 [.agg ⟨[vint S, vint W, .slice ka ks.length kc, .slice da ds.length dc]⟩] w (fun v w' => v = vint 0 ∧ Ext w w') := by
  obtain ⟨⟨hPS, hW1, hW2⟩, ⟨hk0, hk5⟩, ⟨hd0, hd8⟩, hkk, hdd⟩ := hok
  have hSr := prS hPS
  have hkl := List.length_pos_iff.2 hk0
  have hdl := List.length_pos_iff.2 hd0
  have hpr := prS_prime hPS
  have hB := Below.refl w.heap.size w
  have hsz : w.heap.size ≤ w.heap.size := Nat.le_refl _
  refine ret_of_runs (args := [_]) Try.func20 rfl (Nat.le_of_ble_eq_true rfl) (by kernel_rfl) ?_
  refine r_seq ?_
  refine r_region' ?_
  refine l_o (o_box rfl rfl rfl ?_)
  intro b1 w1 hzl1 hzr1 _ hb1 hE1
  have hbs_b1 : w.heap.size ≤ b1 := Nat.le_trans hsz hzl1
  replace hB := below_ext hB hE1 hsz
  replace hsz := Nat.le_trans hsz hE1.size
  refine l_q (q_assign (v := .int _ _) rfl rfl) ?_
  refine l_nil ?_
  refine r_forget [(1, .pointer _)] ⟨rfl, trivial⟩ (fun e2 => ?_)
  refine r_seq ?_
  refine r_draw ext_refl' ext_trans' [0, 1, 2, 3, 4, 5] [] 2 (by kernel_rfl) (by kernel_rfl) ?_
  intro w3 _ hE3
  replace hB := below_ext hB hE3 hsz
  replace hb1 := hb1.ext hE3
  replace hsz := Nat.le_trans hsz hE3.size
  refine m_q rfl rfl (fun w' hC' => q_load_agg (n := 4) Try.isAgg41 Try.sizeOf41 rfl (((hb1.cells' (cs' := [_, _, _, _]) 0 4 rfl).ext hC')) rfl rfl) ?_
  refine m_q rfl rfl (fun w' hC' => q_makeFunc (v := .func _ ⟨[_]⟩ ⟨[]⟩) rfl rfl) ?_
  refine m_q rfl rfl (fun w' hC' => q_load_agg (n := 4) Try.isAgg41 Try.sizeOf41 rfl (((hb1.cells' (cs' := [_, _, _, _]) 0 4 rfl).ext hC')) rfl rfl) ?_
  refine m_q rfl rfl (fun w' hC' => q_makeFunc (v := .func _ ⟨[_]⟩ ⟨[]⟩) rfl rfl) ?_
  refine m_q rfl rfl (fun w' hC' => q_assign (v := .func _ _ _) rfl rfl) ?_
  refine m_q rfl rfl (fun w' hC' => q_assign (v := .func _ _ _) rfl rfl) ?_
  refine m_nil ?_
  refine r_forget [(1, .pointer _), (3, .func _ _ _), (4, .func _ _ _)] ⟨rfl, rfl, rfl, trivial⟩ (fun e4 => ?_)
  refine r_seq ?_
  refine r_block ?_
  refine r_seq ?_
  refine r_region' ?_
  refine l_q (q_fieldAddr (o' := 2) rfl fld41_2 rfl) ?_
  refine l_q (q_load Try.isAgg39 rfl ((hb1.has (o := 2) rfl)) rfl) ?_
  refine l_q (q_len rfl Try.underlying39 rfl rfl) ?_
  refine l_q (q_gtr rfl rfl rfl) ?_
  refine l_q (q_move (v := .bool _) rfl rfl) ?_
  have hk5 : (decide (5 < (ks.length : Int))) = false := by rw [decide_eq_false_iff_not]; omega
  refine l_part 14 rfl (fun hx => absurd (hk5.symm.trans hx) (by decide)) (fun _ => ?_)
  refine l_q (q_fieldAddr (o' := 3) rfl fld41_3 rfl) ?_
  refine l_q (q_load Try.isAgg26 rfl ((hb1.has (o := 3) rfl)) rfl) ?_
  refine l_q (q_len rfl Try.underlying26 rfl rfl) ?_
  refine l_q (q_gtr rfl rfl rfl) ?_
  refine l_q (q_pick_f (v := .bool _) rfl rfl rfl) ?_
  refine l_q (q_assign (v := .bool _) rfl rfl) ?_
  refine l_nil ?_
  refine r_forget [(1, .pointer _), (3, .func _ _ _), (4, .func _ _ _), (9, .bool _)] ⟨rfl, rfl, rfl, rfl, trivial⟩ (fun e6 => ?_)
  have hk7 : (decide (8 < (ds.length : Int))) = false := by rw [decide_eq_false_iff_not]; omega
  refine r_cond_f ((congrArg Value.bool hk7 : Value.bool _ = _)) ?_
  refine r_seq ?_
  refine r_region' ?_
  refine l_q (q_fieldAddr (o' := 0) rfl fld41_0 rfl) ?_
  refine l_q (q_load Try.isAgg3 rfl ((hb1.has (o := 0) rfl)) rfl) ?_
  refine l_o (o_call Try.call36 rfl (cwithin_ret _ _ _ _) rfl ?_)
  rintro _ w8 ⟨rfl, rfl⟩
  refine l_q (q_not rfl rfl) ?_
  refine l_q (q_move (v := .bool _) rfl rfl) ?_
  have hk9 : (!(decide (13 ≤ S) && decide (S ≤ 41))) = false := by simp [hSr.1, hSr.2]
  refine l_part 25 rfl (fun hx => absurd (hk9.symm.trans hx) (by decide)) (fun _ => ?_)
  refine l_q (q_fieldAddr (o' := 0) rfl fld41_0 rfl) ?_
  refine l_q (q_load Try.isAgg3 rfl ((hb1.has (o := 0) rfl)) rfl) ?_
  refine l_o (o_call Try.call47 rfl (prime4_ret S _ (by omega)) rfl ?_)
  rintro _ w10 ⟨rfl, hE10⟩
  replace hB := below_ext hB hE10 hsz
  replace hb1 := hb1.ext hE10
  replace hsz := Nat.le_trans hsz hE10.size
  refine l_q (q_not rfl rfl) ?_
  refine l_q (q_pick_f (v := .bool _) rfl rfl rfl) ?_
  refine l_q (q_move (v := .bool _) rfl rfl) ?_
  have hk11 : (!(primeI S)) = false := by rw [hpr]; rfl
  refine l_part 31 rfl (fun hx => absurd (hk11.symm.trans hx) (by decide)) (fun _ => ?_)
  refine l_q (q_fieldAddr (o' := 1) rfl fld41_1 rfl) ?_
  refine l_q (q_load Try.isAgg3 rfl ((hb1.has (o := 1) rfl)) rfl) ?_
  refine l_q (q_fieldAddr (o' := 0) rfl fld41_0 rfl) ?_
  refine l_q (q_load Try.isAgg3 rfl ((hb1.has (o := 0) rfl)) rfl) ?_
  refine l_o (o_call Try.call36 rfl (cwithin_ret _ _ _ _) rfl ?_)
  rintro _ w12 ⟨rfl, rfl⟩
  refine l_q (q_not rfl rfl) ?_
  refine l_q (q_pick_f (v := .bool _) rfl rfl rfl) ?_
  refine l_q (q_move (v := .bool _) rfl rfl) ?_
  have hk13 : (!(decide (1 ≤ W) && decide (W ≤ S))) = false := by simp [hW1, hW2]
  refine l_part 39 rfl (fun hx => absurd (hk13.symm.trans hx) (by decide)) (fun _ => ?_)
  refine l_q (q_fieldAddr (o' := 2) rfl fld41_2 rfl) ?_
  refine l_q (q_load Try.isAgg39 rfl ((hb1.has (o := 2) rfl)) rfl) ?_
  refine l_q (q_len rfl Try.underlying39 rfl rfl) ?_
  refine l_q (q_eql rfl rfl rfl) ?_
  refine l_q (q_pick_f (v := .bool _) rfl rfl rfl) ?_
  refine l_q (q_move (v := .bool _) rfl rfl) ?_
  have hk14 : (decide ((ks.length : Int) = 0)) = false := by rw [decide_eq_false_iff_not]; omega
  refine l_part 45 rfl (fun hx => absurd (hk14.symm.trans hx) (by decide)) (fun _ => ?_)
  refine l_q (q_fieldAddr (o' := 3) rfl fld41_3 rfl) ?_
  refine l_q (q_load Try.isAgg26 rfl ((hb1.has (o := 3) rfl)) rfl) ?_
  refine l_q (q_len rfl Try.underlying26 rfl rfl) ?_
  refine l_q (q_eql rfl rfl rfl) ?_
  refine l_q (q_pick_f (v := .bool _) rfl rfl rfl) ?_
  refine l_q (q_move (v := .bool _) rfl rfl) ?_
  have hk15 : (decide ((ds.length : Int) = 0)) = false := by rw [decide_eq_false_iff_not]; omega
  refine l_part 51 rfl (fun hx => absurd (hk15.symm.trans hx) (by decide)) (fun _ => ?_)
  refine l_q (q_fieldAddr (o' := 2) rfl fld41_2 rfl) ?_
  refine l_q (q_load Try.isAgg39 rfl ((hb1.has (o := 2) rfl)) rfl) ?_
  refine l_q (q_move (v := .func _ _ _) rfl rfl) ?_
  refine l_o (o_call Try.call48 rfl (all_key_ret _ _ ks 45 _ _ (fun k => keyOk S k.m k.a k.s) _ (hka.below hB) Try.call45 (fun w' hw k hk => bkey_ret _ _ _ _ _ _ _ _ _ _ _ _ hSr) (by omega)) rfl ?_)
  rintro _ w16 ⟨rfl, hE16⟩
  replace hB := below_ext hB hE16 hsz
  replace hb1 := hb1.ext hE16
  replace hsz := Nat.le_trans hsz hE16.size
  refine l_q (q_not rfl rfl) ?_
  refine l_q (q_pick_f (v := .bool _) rfl rfl rfl) ?_
  refine l_q (q_move (v := .bool _) rfl rfl) ?_
  have hk17 : (!(ks.all (fun k => keyOk S k.m k.a k.s))) = false := by rw [List.all_eq_true.2 (fun k hk => hkk k hk)]; rfl
  refine l_part 58 rfl (fun hx => absurd (hk17.symm.trans hx) (by decide)) (fun _ => ?_)
  refine l_q (q_fieldAddr (o' := 3) rfl fld41_3 rfl) ?_
  refine l_q (q_load Try.isAgg26 rfl ((hb1.has (o := 3) rfl)) rfl) ?_
  refine l_q (q_move (v := .func _ _ _) rfl rfl) ?_
  refine l_o (o_call Try.call22 rfl (all_int_of 0 (q := fun d => decide (0 ≤ d) && decide (d ≤ (ks.length : Int) - 1)) Try.call46 (hda.below hB) (fun w' hw d hd => bown_ret _ _ _ _ _ _ _ _ _ _ (by omega)) (by omega)) rfl ?_)
  rintro _ w18 ⟨rfl, hE18⟩
  replace hB := below_ext hB hE18 hsz
  replace hb1 := hb1.ext hE18
  replace hsz := Nat.le_trans hsz hE18.size
  refine l_q (q_not rfl rfl) ?_
  refine l_q (q_pick_f (v := .bool _) rfl rfl rfl) ?_
  refine l_q (q_assign (v := .bool _) rfl rfl) ?_
  refine l_nil ?_
  refine r_forget [(20, .bool _)] ⟨rfl, trivial⟩ (fun e19 => ?_)
  have hk20 : (!(ds.all (fun d => decide (0 ≤ d) && decide (d ≤ (ks.length : Int) - 1)))) = false := by rw [List.all_eq_true.2 (fun d hd => by have h := hdd d hd; simp only [Bool.and_eq_true, decide_eq_true_eq]; exact h)]; rfl
  refine r_cond_f ((congrArg Value.bool hk20 : Value.bool _ = _)) ?_
  refine r_skip ?_
  refine r_inBlock ?_
  refine r_seq ?_
  refine r_region' ?_
  refine l_q (q_assign (v := .int _ _) rfl rfl) ?_
  refine l_nil ?_
  refine r_forget [(2, .int _ _)] ⟨rfl, trivial⟩ (fun e21 => ?_)
  refine r_ret_ (vs := [.int _ _]) rfl Try.func20 rfl (.nil _) ⟨rfl, trivial⟩ ?_
  exact ⟨rfl, Ext.of_below hB⟩
theorem isKey_ret (S W : Int) (ka : Option Addr) (kn kc : Nat) (da : Option Addr) (dn dc : Nat) (mu ad st : Int) (w : World) (hS : 13 ≤ S ∧ S ≤ 41) : Ret Try.prog 18 [.agg ⟨[vint S, vint W, .slice ka kn kc, .slice da dn dc]⟩, .agg ⟨[vint mu, vint ad, vint st]⟩] w (fun v w' => v = .bool (keyOk S mu ad st) ∧ Ext w w') := by
  have hB := Below.refl w.heap.size w
  have hsz : w.heap.size ≤ w.heap.size := Nat.le_refl _
  refine ret_of_runs (args := [_, _]) Try.func18 rfl (Nat.le_of_ble_eq_true rfl) (by kernel_rfl) ?_
  refine r_seq ?_
  refine r_region' ?_
  refine l_o (o_box rfl rfl rfl ?_)
  intro b1 w1 hzl1 hzr1 _ hb1 hE1
  have hbs_b1 : w.heap.size ≤ b1 := Nat.le_trans hsz hzl1
  replace hB := below_ext hB hE1 hsz
  replace hsz := Nat.le_trans hsz hE1.size
  refine l_o (o_box rfl rfl rfl ?_)
  intro b2 w2 hzl2 hzr2 _ hb2 hE2
  have hbs_b2 : w.heap.size ≤ b2 := Nat.le_trans hsz hzl2
  replace hB := below_ext hB hE2 hsz
  replace hb1 := hb1.ext hE2
  replace hsz := Nat.le_trans hsz hE2.size
  refine l_q (q_assign (v := .bool _) rfl rfl) ?_
  refine l_nil ?_
  refine r_forget [(2, .pointer _), (3, .pointer _)] ⟨rfl, rfl, trivial⟩ (fun e3 => ?_)
  refine r_seq ?_
  refine r_region' ?_
  refine l_q (q_fieldAddr (o' := 0) rfl fld53_0 rfl) ?_
  refine l_q (q_load Try.isAgg3 rfl ((hb2.has (o := 0) rfl)) rfl) ?_
  refine l_q (q_fieldAddr (o' := 0) rfl fld28_0 rfl) ?_
  refine l_q (q_load Try.isAgg3 rfl ((hb1.has (o := 0) rfl)) rfl) ?_
  refine l_q (q_sub rfl rfl (by omega) rfl) ?_
  refine l_o (o_call Try.call17 rfl (in4_ret _ _ _ _) rfl ?_)
  rintro _ w4 ⟨rfl, rfl⟩
  refine l_q (q_move (v := .bool _) rfl rfl) ?_
  refine l_part 11 rfl (fun hc5 => ?_) (fun hc5 => ?_)
  · skip
    try simp only [decide_eq_true_eq, decide_eq_false_iff_not, Bool.not_eq_true', Bool.not_eq_false', Bool.not_not, Bool.not_true, Bool.not_false, Bool.not_eq_true, Bool.not_eq_false, Int.not_lt, Int.not_le, Bool.and_eq_true, Bool.or_eq_true, Bool.and_eq_false_iff, Bool.or_eq_false_iff] at hc5
    have g1 := hc5
    refine l_q (q_fieldAddr (o' := 1) rfl fld53_1 rfl) ?_
    refine l_q (q_load Try.isAgg3 rfl ((hb2.has (o := 1) rfl)) rfl) ?_
    refine l_q (q_fieldAddr (o' := 0) rfl fld28_0 rfl) ?_
    refine l_q (q_load Try.isAgg3 rfl ((hb1.has (o := 0) rfl)) rfl) ?_
    refine l_q (q_sub rfl rfl (by omega) rfl) ?_
    refine l_o (o_call Try.call17 rfl (in4_ret _ _ _ _) rfl ?_)
    rintro _ w6 ⟨rfl, rfl⟩
    refine l_q (q_pick_t (v := .bool _) rfl rfl rfl) ?_
    refine l_q (q_move (v := .bool _) rfl rfl) ?_
    refine l_part 19 rfl (fun hc7 => ?_) (fun hc7 => ?_)
    · skip
      try simp only [decide_eq_true_eq, decide_eq_false_iff_not, Bool.not_eq_true', Bool.not_eq_false', Bool.not_not, Bool.not_true, Bool.not_false, Bool.not_eq_true, Bool.not_eq_false, Int.not_lt, Int.not_le, Bool.and_eq_true, Bool.or_eq_true, Bool.and_eq_false_iff, Bool.or_eq_false_iff] at hc7
      have g2 := hc7
      refine l_q (q_fieldAddr (o' := 2) rfl fld53_2 rfl) ?_
      refine l_q (q_load Try.isAgg3 rfl ((hb2.has (o := 2) rfl)) rfl) ?_
      refine l_q (q_fieldAddr (o' := 0) rfl fld28_0 rfl) ?_
      refine l_q (q_load Try.isAgg3 rfl ((hb1.has (o := 0) rfl)) rfl) ?_
      refine l_q (q_sub rfl rfl (by omega) rfl) ?_
      refine l_o (o_call Try.call17 rfl (in4_ret _ _ _ _) rfl ?_)
      rintro _ w8 ⟨rfl, rfl⟩
      refine l_q (q_pick_t (v := .bool _) rfl rfl rfl) ?_
      refine l_q (q_assign (v := .bool _) rfl rfl) ?_
      refine l_nil ?_
      refine r_forget [(4, .bool _)] ⟨rfl, trivial⟩ (fun e9 => ?_)
      refine r_ret_ (vs := [.bool _]) rfl Try.func18 rfl (.nil _) ⟨rfl, trivial⟩ ?_
      exact ⟨vbool_eq (by unfold keyOk inS; simp_all <;> omega), Ext.of_below hB⟩
    · skip
      try simp only [decide_eq_true_eq, decide_eq_false_iff_not, Bool.not_eq_true', Bool.not_eq_false', Bool.not_not, Bool.not_true, Bool.not_false, Bool.not_eq_true, Bool.not_eq_false, Int.not_lt, Int.not_le, Bool.and_eq_true, Bool.or_eq_true, Bool.and_eq_false_iff, Bool.or_eq_false_iff] at hc7
      have g2 := hc7
      refine l_q (q_skip rfl) ?_
      refine l_q (q_skip rfl) ?_
      refine l_q (q_skip rfl) ?_
      refine l_q (q_skip rfl) ?_
      refine l_q (q_skip rfl) ?_
      refine l_q (q_skip rfl) ?_
      refine l_q (q_pick_f (v := .bool _) rfl rfl rfl) ?_
      refine l_q (q_assign (v := .bool _) rfl rfl) ?_
      refine l_nil ?_
      refine r_forget [(4, .bool _)] ⟨rfl, trivial⟩ (fun e10 => ?_)
      refine r_ret_ (vs := [.bool _]) rfl Try.func18 rfl (.nil _) ⟨rfl, trivial⟩ ?_
      exact ⟨vbool_eq (by unfold keyOk inS; simp_all <;> omega), Ext.of_below hB⟩
  · skip
    try simp only [decide_eq_true_eq, decide_eq_false_iff_not, Bool.not_eq_true', Bool.not_eq_false', Bool.not_not, Bool.not_true, Bool.not_false, Bool.not_eq_true, Bool.not_eq_false, Int.not_lt, Int.not_le, Bool.and_eq_true, Bool.or_eq_true, Bool.and_eq_false_iff, Bool.or_eq_false_iff] at hc5
    have g1 := hc5
    refine l_q (q_skip rfl) ?_
    refine l_q (q_skip rfl) ?_
    refine l_q (q_skip rfl) ?_
    refine l_q (q_skip rfl) ?_
    refine l_q (q_skip rfl) ?_
    refine l_q (q_skip rfl) ?_
    refine l_q (q_pick_f (v := .bool _) rfl rfl rfl) ?_
    refine l_q (q_move (v := .bool _) rfl rfl) ?_
    refine l_q (q_skip rfl) ?_
    refine l_q (q_skip rfl) ?_
    refine l_q (q_skip rfl) ?_
    refine l_q (q_skip rfl) ?_
    refine l_q (q_skip rfl) ?_
    refine l_q (q_skip rfl) ?_
    refine l_q (q_pick_f (v := .bool _) rfl rfl rfl) ?_
    refine l_q (q_assign (v := .bool _) rfl rfl) ?_
    refine l_nil ?_
    refine r_forget [(4, .bool _)] ⟨rfl, trivial⟩ (fun e11 => ?_)
    refine r_ret_ (vs := [.bool _]) rfl Try.func18 rfl (.nil _) ⟨rfl, trivial⟩ ?_
    exact ⟨vbool_eq (by unfold keyOk inS; simp_all <;> omega), Ext.of_below hB⟩
theorem fault4_ret (S W : Int) (ka : Option Addr) (kc : Nat) (da : Option Addr) (dc : Nat) (ks : List K3) (ds : List Int) (w : World) (hka : Row w ka ks.length kc 3 (ks.flatMap K3.enc)) (hda : Row w da ds.length dc 1 (ds.map vint)) (hkn : ks.length ≤ 2097152) (hdn : ds.length ≤ 2097152) : Ret Try.prog 7 [.agg ⟨[vint S, vint W, .slice ka ks.length kc, .slice da ds.length dc]⟩] w (fun v w' => ∃ n : Int, v = vint n ∧ (n = 0 → BookOk S W ks ds) ∧ Ext w w') := by
  have hB := Below.refl w.heap.size w
  have hsz : w.heap.size ≤ w.heap.size := Nat.le_refl _
  refine ret_of_runs (args := [_]) Try.func7 rfl (Nat.le_of_ble_eq_true rfl) (by kernel_rfl) ?_
  refine r_seq ?_
  refine r_region' ?_
  refine l_o (o_box rfl rfl rfl ?_)
  intro b1 w1 hzl1 hzr1 _ hb1 hE1
  have hbs_b1 : w.heap.size ≤ b1 := Nat.le_trans hsz hzl1
  replace hB := below_ext hB hE1 hsz
  replace hsz := Nat.le_trans hsz hE1.size
  refine l_q (q_assign (v := .int _ _) rfl rfl) ?_
  refine l_nil ?_
  refine r_forget [(1, .pointer _)] ⟨rfl, trivial⟩ (fun e2 => ?_)
  refine r_seq ?_
  refine r_seq ?_
  refine r_region' ?_
  refine l_q (q_fieldAddr (o' := 2) rfl fld28_2 rfl) ?_
  refine l_q (q_load Try.isAgg25 rfl ((hb1.has (o := 2) rfl)) rfl) ?_
  refine l_q (q_len rfl Try.underlying25 rfl rfl) ?_
  refine l_q (q_gtr rfl rfl rfl) ?_
  refine l_q (q_move (v := .bool _) rfl rfl) ?_
  refine l_part 9 rfl (fun hc3 => ?_) (fun hc3 => ?_)
  · skip
    try simp only [decide_eq_true_eq, decide_eq_false_iff_not, Bool.not_eq_true', Bool.not_eq_false', Bool.not_not, Bool.not_true, Bool.not_false, Bool.not_eq_true, Bool.not_eq_false, Int.not_lt, Int.not_le, Bool.and_eq_true, Bool.or_eq_true, Bool.and_eq_false_iff, Bool.or_eq_false_iff] at hc3
    refine l_q (q_skip rfl) ?_
    refine l_q (q_skip rfl) ?_
    refine l_q (q_skip rfl) ?_
    refine l_q (q_skip rfl) ?_
    refine l_q (q_pick_t (v := .bool _) rfl rfl rfl) ?_
    refine l_nil ?_
    refine r_forget [(1, .pointer _), (14, .bool _)] ⟨rfl, rfl, trivial⟩ (fun e4 => ?_)
    refine r_cond_t rfl ?_
    refine r_seq ?_
    refine r_region' ?_
    refine l_q (q_assign (v := .int _ _) rfl rfl) ?_
    refine l_nil ?_
    refine r_forget [(2, .int _ _)] ⟨rfl, trivial⟩ (fun e5 => ?_)
    refine r_ret_ (vs := [.int _ _]) rfl Try.func7 rfl (.nil _) ⟨rfl, trivial⟩ ?_
    exact ⟨3, rfl, (fun h => absurd h (by decide)), Ext.of_below hB⟩
  · skip
    try simp only [decide_eq_true_eq, decide_eq_false_iff_not, Bool.not_eq_true', Bool.not_eq_false', Bool.not_not, Bool.not_true, Bool.not_false, Bool.not_eq_true, Bool.not_eq_false, Int.not_lt, Int.not_le, Bool.and_eq_true, Bool.or_eq_true, Bool.and_eq_false_iff, Bool.or_eq_false_iff] at hc3
    have g1 := hc3
    refine l_q (q_fieldAddr (o' := 3) rfl fld28_3 rfl) ?_
    refine l_q (q_load Try.isAgg26 rfl ((hb1.has (o := 3) rfl)) rfl) ?_
    refine l_q (q_len rfl Try.underlying26 rfl rfl) ?_
    refine l_q (q_gtr rfl rfl rfl) ?_
    refine l_q (q_pick_f (v := .bool _) rfl rfl rfl) ?_
    refine l_nil ?_
    refine r_forget [(1, .pointer _), (14, .bool _)] ⟨rfl, rfl, trivial⟩ (fun e6 => ?_)
    refine r_cond rfl (fun hc7 => ?_) (fun hc7 => ?_)
    · skip
      try simp only [decide_eq_true_eq, decide_eq_false_iff_not, Bool.not_eq_true', Bool.not_eq_false', Bool.not_not, Bool.not_true, Bool.not_false, Bool.not_eq_true, Bool.not_eq_false, Int.not_lt, Int.not_le, Bool.and_eq_true, Bool.or_eq_true, Bool.and_eq_false_iff, Bool.or_eq_false_iff] at hc7
      refine r_seq ?_
      refine r_region' ?_
      refine l_q (q_assign (v := .int _ _) rfl rfl) ?_
      refine l_nil ?_
      refine r_forget [(2, .int _ _)] ⟨rfl, trivial⟩ (fun e8 => ?_)
      refine r_ret_ (vs := [.int _ _]) rfl Try.func7 rfl (.nil _) ⟨rfl, trivial⟩ ?_
      exact ⟨3, rfl, (fun h => absurd h (by decide)), Ext.of_below hB⟩
    · skip
      try simp only [decide_eq_true_eq, decide_eq_false_iff_not, Bool.not_eq_true', Bool.not_eq_false', Bool.not_not, Bool.not_true, Bool.not_false, Bool.not_eq_true, Bool.not_eq_false, Int.not_lt, Int.not_le, Bool.and_eq_true, Bool.or_eq_true, Bool.and_eq_false_iff, Bool.or_eq_false_iff] at hc7
      have g2 := hc7
      refine r_skip ?_
      refine r_seq ?_
      refine r_seq ?_
      refine r_region' ?_
      refine l_q (q_fieldAddr (o' := 0) rfl fld28_0 rfl) ?_
      refine l_q (q_load Try.isAgg3 rfl ((hb1.has (o := 0) rfl)) rfl) ?_
      refine l_o (o_call Try.call16 rfl (rprime4_ret S _) rfl ?_)
      rintro _ w9 ⟨rfl, hE9⟩
      replace hB := below_ext hB hE9 hsz
      replace hb1 := hb1.ext hE9
      replace hsz := Nat.le_trans hsz hE9.size
      refine l_q (q_not rfl rfl) ?_
      refine l_q (q_move (v := .bool _) rfl rfl) ?_
      refine l_part 19 rfl (fun hc10 => ?_) (fun hc10 => ?_)
      · skip
        try simp only [decide_eq_true_eq, decide_eq_false_iff_not, Bool.not_eq_true', Bool.not_eq_false', Bool.not_not, Bool.not_true, Bool.not_false, Bool.not_eq_true, Bool.not_eq_false, Int.not_lt, Int.not_le, Bool.and_eq_true, Bool.or_eq_true, Bool.and_eq_false_iff, Bool.or_eq_false_iff] at hc10
        refine l_q (q_skip rfl) ?_
        refine l_q (q_skip rfl) ?_
        refine l_q (q_skip rfl) ?_
        refine l_q (q_skip rfl) ?_
        refine l_q (q_skip rfl) ?_
        refine l_q (q_skip rfl) ?_
        refine l_q (q_pick_t (v := .bool _) rfl rfl rfl) ?_
        refine l_q (q_move (v := .bool _) rfl rfl) ?_
        refine l_q (q_skip rfl) ?_
        refine l_q (q_skip rfl) ?_
        refine l_q (q_skip rfl) ?_
        refine l_q (q_skip rfl) ?_
        refine l_q (q_pick_t (v := .bool _) rfl rfl rfl) ?_
        refine l_q (q_move (v := .bool _) rfl rfl) ?_
        refine l_q (q_skip rfl) ?_
        refine l_q (q_skip rfl) ?_
        refine l_q (q_skip rfl) ?_
        refine l_q (q_skip rfl) ?_
        refine l_q (q_pick_t (v := .bool _) rfl rfl rfl) ?_
        refine l_nil ?_
        refine r_forget [(1, .pointer _), (38, .bool _)] ⟨rfl, rfl, trivial⟩ (fun e11 => ?_)
        refine r_cond_t rfl ?_
        refine r_seq ?_
        refine r_region' ?_
        refine l_q (q_assign (v := .int _ _) rfl rfl) ?_
        refine l_nil ?_
        refine r_forget [(2, .int _ _)] ⟨rfl, trivial⟩ (fun e12 => ?_)
        refine r_ret_ (vs := [.int _ _]) rfl Try.func7 rfl (.nil _) ⟨rfl, trivial⟩ ?_
        exact ⟨1, rfl, (fun h => absurd h (by decide)), Ext.of_below hB⟩
      · skip
        try simp only [decide_eq_true_eq, decide_eq_false_iff_not, Bool.not_eq_true', Bool.not_eq_false', Bool.not_not, Bool.not_true, Bool.not_false, Bool.not_eq_true, Bool.not_eq_false, Int.not_lt, Int.not_le, Bool.and_eq_true, Bool.or_eq_true, Bool.and_eq_false_iff, Bool.or_eq_false_iff] at hc10
        have hPS : PRL.contains S = true := by simpa [PRL] using hc10
        have hSr := prS hPS
        refine l_q (q_fieldAddr (o' := 1) rfl fld28_1 rfl) ?_
        refine l_q (q_load Try.isAgg3 rfl ((hb1.has (o := 1) rfl)) rfl) ?_
        refine l_q (q_fieldAddr (o' := 0) rfl fld28_0 rfl) ?_
        refine l_q (q_load Try.isAgg3 rfl ((hb1.has (o := 0) rfl)) rfl) ?_
        refine l_o (o_call Try.call17 rfl (in4_ret _ _ _ _) rfl ?_)
        rintro _ w13 ⟨rfl, rfl⟩
        refine l_q (q_not rfl rfl) ?_
        refine l_q (q_pick_f (v := .bool _) rfl rfl rfl) ?_
        refine l_q (q_move (v := .bool _) rfl rfl) ?_
        refine l_part 27 rfl (fun hc14 => ?_) (fun hc14 => ?_)
        · skip
          try simp only [decide_eq_true_eq, decide_eq_false_iff_not, Bool.not_eq_true', Bool.not_eq_false', Bool.not_not, Bool.not_true, Bool.not_false, Bool.not_eq_true, Bool.not_eq_false, Int.not_lt, Int.not_le, Bool.and_eq_true, Bool.or_eq_true, Bool.and_eq_false_iff, Bool.or_eq_false_iff] at hc14
          refine l_q (q_skip rfl) ?_
          refine l_q (q_skip rfl) ?_
          refine l_q (q_skip rfl) ?_
          refine l_q (q_skip rfl) ?_
          refine l_q (q_pick_t (v := .bool _) rfl rfl rfl) ?_
          refine l_q (q_move (v := .bool _) rfl rfl) ?_
          refine l_q (q_skip rfl) ?_
          refine l_q (q_skip rfl) ?_
          refine l_q (q_skip rfl) ?_
          refine l_q (q_skip rfl) ?_
          refine l_q (q_pick_t (v := .bool _) rfl rfl rfl) ?_
          refine l_nil ?_
          refine r_forget [(1, .pointer _), (38, .bool _)] ⟨rfl, rfl, trivial⟩ (fun e15 => ?_)
          refine r_cond_t rfl ?_
          refine r_seq ?_
          refine r_region' ?_
          refine l_q (q_assign (v := .int _ _) rfl rfl) ?_
          refine l_nil ?_
          refine r_forget [(2, .int _ _)] ⟨rfl, trivial⟩ (fun e16 => ?_)
          refine r_ret_ (vs := [.int _ _]) rfl Try.func7 rfl (.nil _) ⟨rfl, trivial⟩ ?_
          exact ⟨1, rfl, (fun h => absurd h (by decide)), Ext.of_below hB⟩
        · skip
          try simp only [decide_eq_true_eq, decide_eq_false_iff_not, Bool.not_eq_true', Bool.not_eq_false', Bool.not_not, Bool.not_true, Bool.not_false, Bool.not_eq_true, Bool.not_eq_false, Int.not_lt, Int.not_le, Bool.and_eq_true, Bool.or_eq_true, Bool.and_eq_false_iff, Bool.or_eq_false_iff] at hc14
          have g3 := hc14
          refine l_q (q_fieldAddr (o' := 2) rfl fld28_2 rfl) ?_
          refine l_q (q_load Try.isAgg25 rfl ((hb1.has (o := 2) rfl)) rfl) ?_
          refine l_q (q_len rfl Try.underlying25 rfl rfl) ?_
          refine l_q (q_eql rfl rfl rfl) ?_
          refine l_q (q_pick_f (v := .bool _) rfl rfl rfl) ?_
          refine l_q (q_move (v := .bool _) rfl rfl) ?_
          refine l_part 33 rfl (fun hc17 => ?_) (fun hc17 => ?_)
          · skip
            try simp only [decide_eq_true_eq, decide_eq_false_iff_not, Bool.not_eq_true', Bool.not_eq_false', Bool.not_not, Bool.not_true, Bool.not_false, Bool.not_eq_true, Bool.not_eq_false, Int.not_lt, Int.not_le, Bool.and_eq_true, Bool.or_eq_true, Bool.and_eq_false_iff, Bool.or_eq_false_iff] at hc17
            refine l_q (q_skip rfl) ?_
            refine l_q (q_skip rfl) ?_
            refine l_q (q_skip rfl) ?_
            refine l_q (q_skip rfl) ?_
            refine l_q (q_pick_t (v := .bool _) rfl rfl rfl) ?_
            refine l_nil ?_
            refine r_forget [(1, .pointer _), (38, .bool _)] ⟨rfl, rfl, trivial⟩ (fun e18 => ?_)
            refine r_cond_t rfl ?_
            refine r_seq ?_
            refine r_region' ?_
            refine l_q (q_assign (v := .int _ _) rfl rfl) ?_
            refine l_nil ?_
            refine r_forget [(2, .int _ _)] ⟨rfl, trivial⟩ (fun e19 => ?_)
            refine r_ret_ (vs := [.int _ _]) rfl Try.func7 rfl (.nil _) ⟨rfl, trivial⟩ ?_
            exact ⟨1, rfl, (fun h => absurd h (by decide)), Ext.of_below hB⟩
          · skip
            try simp only [decide_eq_true_eq, decide_eq_false_iff_not, Bool.not_eq_true', Bool.not_eq_false', Bool.not_not, Bool.not_true, Bool.not_false, Bool.not_eq_true, Bool.not_eq_false, Int.not_lt, Int.not_le, Bool.and_eq_true, Bool.or_eq_true, Bool.and_eq_false_iff, Bool.or_eq_false_iff] at hc17
            have g4 := hc17
            refine l_q (q_fieldAddr (o' := 3) rfl fld28_3 rfl) ?_
            refine l_q (q_load Try.isAgg26 rfl ((hb1.has (o := 3) rfl)) rfl) ?_
            refine l_q (q_len rfl Try.underlying26 rfl rfl) ?_
            refine l_q (q_eql rfl rfl rfl) ?_
            refine l_q (q_pick_f (v := .bool _) rfl rfl rfl) ?_
            refine l_nil ?_
            refine r_forget [(1, .pointer _), (38, .bool _)] ⟨rfl, rfl, trivial⟩ (fun e20 => ?_)
            refine r_cond rfl (fun hc21 => ?_) (fun hc21 => ?_)
            · skip
              try simp only [decide_eq_true_eq, decide_eq_false_iff_not, Bool.not_eq_true', Bool.not_eq_false', Bool.not_not, Bool.not_true, Bool.not_false, Bool.not_eq_true, Bool.not_eq_false, Int.not_lt, Int.not_le, Bool.and_eq_true, Bool.or_eq_true, Bool.and_eq_false_iff, Bool.or_eq_false_iff] at hc21
              refine r_seq ?_
              refine r_region' ?_
              refine l_q (q_assign (v := .int _ _) rfl rfl) ?_
              refine l_nil ?_
              refine r_forget [(2, .int _ _)] ⟨rfl, trivial⟩ (fun e22 => ?_)
              refine r_ret_ (vs := [.int _ _]) rfl Try.func7 rfl (.nil _) ⟨rfl, trivial⟩ ?_
              exact ⟨1, rfl, (fun h => absurd h (by decide)), Ext.of_below hB⟩
            · skip
              try simp only [decide_eq_true_eq, decide_eq_false_iff_not, Bool.not_eq_true', Bool.not_eq_false', Bool.not_not, Bool.not_true, Bool.not_false, Bool.not_eq_true, Bool.not_eq_false, Int.not_lt, Int.not_le, Bool.and_eq_true, Bool.or_eq_true, Bool.and_eq_false_iff, Bool.or_eq_false_iff] at hc21
              have g5 := hc21
              refine r_skip ?_
              refine r_seq ?_
              refine r_seq ?_
              refine r_region' ?_
              refine l_q (q_assign (v := .int _ _) rfl rfl) ?_
              refine l_nil ?_
              refine r_forget [(1, .pointer _), (3, .int _ _)] ⟨rfl, rfl, trivial⟩ (fun e23 => ?_)
              refine r_block ?_
              refine r_rounds (α := Nat) (fun i e wl => Knows e [(1, ptr b1 0), (3, vint (i : Int))] ∧ (i ≤ ks.length) ∧ (∀ j, j < i → keyOk S (ks.getD j k0).m (ks.getD j k0).a (ks.getD j k0).s = true) ∧ (Blk wl b1 [vint S, vint W, .slice ka ks.length kc, .slice da ds.length dc]) ∧ (w.heap.size ≤ wl.heap.size) ∧ (Below w.heap.size w wl)) (fun i => ks.length - i) 0 ?_ ?_
              · skip
                exact ⟨⟨rfl, rfl, trivial⟩, (Nat.zero_le _), (fun i hi => absurd hi (Nat.not_lt_zero _)), hb1, hsz, hB⟩
              · skip
                rintro i el24 wl24 ⟨hkn, hki, hgk, hb1, hsz, hB⟩ ih24
                obtain ⟨e24, rfl⟩ := knows_env hkn
                refine r_seq ?_
                refine r_seq ?_
                refine r_region' ?_
                refine l_q (q_move (v := .int _ _) rfl rfl) ?_
                refine l_q (q_fieldAddr (o' := 2) rfl fld28_2 rfl) ?_
                refine l_q (q_load Try.isAgg25 rfl ((hb1.has (o := 2) rfl)) rfl) ?_
                refine l_q (q_len rfl Try.underlying25 rfl rfl) ?_
                refine l_q (q_lss rfl rfl rfl) ?_
                refine l_nil ?_
                refine r_forget [(1, .pointer _), (3, .int _ _), (43, .bool _)] ⟨rfl, rfl, rfl, trivial⟩ (fun e25 => ?_)
                refine r_cond rfl (fun hc26 => ?_) (fun hc26 => ?_)
                · skip
                  try simp only [decide_eq_true_eq, decide_eq_false_iff_not, Bool.not_eq_true', Bool.not_eq_false', Bool.not_not, Bool.not_true, Bool.not_false, Bool.not_eq_true, Bool.not_eq_false, Int.not_lt, Int.not_le, Bool.and_eq_true, Bool.or_eq_true, Bool.and_eq_false_iff, Bool.or_eq_false_iff] at hc26
                  refine r_skip ?_
                  refine r_seq ?_
                  refine r_block ?_
                  refine r_seq ?_
                  refine r_draw ext_refl' ext_trans' [0, 1, 2, 3, 4, 5, 6, 7] [6] 6 (by kernel_rfl) (by kernel_rfl) ?_
                  intro w27 _ hE27
                  replace hB := below_ext hB hE27 hsz
                  replace hb1 := hb1.ext hE27
                  replace hsz := Nat.le_trans hsz hE27.size
                  refine m_q rfl rfl (fun w' hC' => q_load_agg (n := 4) Try.isAgg28 Try.sizeOf28 rfl (((hb1.cells' (cs' := [_, _, _, _]) 0 4 rfl).ext hC')) rfl rfl) ?_
                  refine m_q rfl rfl (fun w' hC' => q_fieldAddr (o' := 2) rfl fld28_2 rfl) ?_
                  refine m_q rfl rfl (fun w' hC' => q_load Try.isAgg25 rfl (((hb1.has (o := 2) rfl).ext hC')) rfl) ?_
                  refine m_q rfl rfl (fun w' hC' => q_move (v := .int _ _) rfl rfl) ?_
                  obtain ⟨b28, o28, ha28, hh28⟩ := (hka.below hB).at (by decide) i (by omega)
                  refine m_q rfl rfl (fun w' hC' => q_indexAddr Try.underlying25 Try.sizeOf53 rfl ha28 rfl (by omega) rfl) ?_
                  refine m_q rfl rfl (fun w' hC' => q_load_agg (cs := [vint (((ks).getD i k0).m), vint (((ks).getD i k0).a), vint (((ks).getD i k0).s)]) (n := 3) Try.isAgg53 Try.sizeOf53 rfl (((cells_cast (wide_at K3.len k0 _ _ (by omega)) hh28).ext hC')) rfl rfl) ?_
                  refine m_o rfl rfl (o_call Try.call18 rfl (isKey_ret _ _ _ _ _ _ _ _ _ _ _ _ hSr) rfl ?_)
                  rintro _ w29 ⟨rfl, hE29⟩
                  refine ⟨hE29, ?_⟩
                  replace hB := below_ext hB hE29 hsz
                  replace hb1 := hb1.ext hE29
                  replace hsz := Nat.le_trans hsz hE29.size
                  refine m_q rfl rfl (fun w' hC' => q_not rfl rfl) ?_
                  refine m_nil ?_
                  refine r_forget [(1, .pointer _), (3, .int _ _), (53, .bool _)] ⟨rfl, rfl, rfl, trivial⟩ (fun e30 => ?_)
                  refine r_cond rfl (fun hc31 => ?_) (fun hc31 => ?_)
                  · skip
                    try simp only [decide_eq_true_eq, decide_eq_false_iff_not, Bool.not_eq_true', Bool.not_eq_false', Bool.not_not, Bool.not_true, Bool.not_false, Bool.not_eq_true, Bool.not_eq_false, Int.not_lt, Int.not_le, Bool.and_eq_true, Bool.or_eq_true, Bool.and_eq_false_iff, Bool.or_eq_false_iff] at hc31
                    refine r_seq ?_
                    refine r_region' ?_
                    refine l_q (q_assign (v := .int _ _) rfl rfl) ?_
                    refine l_nil ?_
                    refine r_forget [(2, .int _ _)] ⟨rfl, trivial⟩ (fun e32 => ?_)
                    refine r_ret_ (vs := [.int _ _]) rfl Try.func7 rfl (.nil _) ⟨rfl, trivial⟩ ?_
                    exact ⟨1, rfl, (fun h => absurd h (by decide)), Ext.of_below hB⟩
                  · skip
                    try simp only [decide_eq_true_eq, decide_eq_false_iff_not, Bool.not_eq_true', Bool.not_eq_false', Bool.not_not, Bool.not_true, Bool.not_false, Bool.not_eq_true, Bool.not_eq_false, Int.not_lt, Int.not_le, Bool.and_eq_true, Bool.or_eq_true, Bool.and_eq_false_iff, Bool.or_eq_false_iff] at hc31
                    refine r_skip ?_
                    refine r_inBlock ?_
                    refine r_region' ?_
                    refine l_q (q_move (v := .int _ _) rfl rfl) ?_
                    refine l_q (q_add rfl rfl (by omega) rfl) ?_
                    refine l_q (q_assign (v := .int _ _) rfl rfl) ?_
                    refine l_nil ?_
                    refine r_forget [(1, .pointer _), (3, .int _ _)] ⟨rfl, rfl, trivial⟩ (fun e33 => ?_)
                    exact ih24 (i + 1) _ _ ⟨⟨rfl, by first | rfl | exact vint_eq (by omega), trivial⟩, (by omega), (fun j hj => by rcases Nat.lt_succ_iff_lt_or_eq.1 hj with h | h; exact hgk j h; subst h; first | assumption | simp_all), hb1, hsz, hB⟩ (by first | omega | (dsimp only; omega))
                · skip
                  try simp only [decide_eq_true_eq, decide_eq_false_iff_not, Bool.not_eq_true', Bool.not_eq_false', Bool.not_not, Bool.not_true, Bool.not_false, Bool.not_eq_true, Bool.not_eq_false, Int.not_lt, Int.not_le, Bool.and_eq_true, Bool.or_eq_true, Bool.and_eq_false_iff, Bool.or_eq_false_iff] at hc26
                  refine r_exit rfl ?_
                  refine r_seq ?_
                  refine r_seq ?_
                  refine r_region' ?_
                  refine l_q (q_assign (v := .int _ _) rfl rfl) ?_
                  refine l_nil ?_
                  refine r_forget [(1, .pointer _), (4, .int _ _)] ⟨rfl, rfl, trivial⟩ (fun e34 => ?_)
                  refine r_block ?_
                  refine r_rounds (α := Nat) (fun i2 e wl => Knows e [(1, ptr b1 0), (4, vint (i2 : Int))] ∧ (i2 ≤ ds.length) ∧ (∀ j, j < i2 → 0 ≤ ds.getD j 0 ∧ ds.getD j 0 ≤ (ks.length : Int) - 1) ∧ (Blk wl b1 [vint S, vint W, .slice ka ks.length kc, .slice da ds.length dc]) ∧ (w.heap.size ≤ wl.heap.size) ∧ (Below w.heap.size w wl)) (fun i2 => ds.length - i2) 0 ?_ ?_
                  · skip
                    exact ⟨⟨rfl, rfl, trivial⟩, (Nat.zero_le _), (fun i hi => absurd hi (Nat.not_lt_zero _)), hb1, hsz, hB⟩
                  · skip
                    rintro i2 el35 wl35 ⟨hkn, hki2, hgd, hb1, hsz, hB⟩ ih35
                    obtain ⟨e35, rfl⟩ := knows_env hkn
                    refine r_seq ?_
                    refine r_seq ?_
                    refine r_region' ?_
                    refine l_q (q_move (v := .int _ _) rfl rfl) ?_
                    refine l_q (q_fieldAddr (o' := 3) rfl fld28_3 rfl) ?_
                    refine l_q (q_load Try.isAgg26 rfl ((hb1.has (o := 3) rfl)) rfl) ?_
                    refine l_q (q_len rfl Try.underlying26 rfl rfl) ?_
                    refine l_q (q_lss rfl rfl rfl) ?_
                    refine l_nil ?_
                    refine r_forget [(1, .pointer _), (4, .int _ _), (58, .bool _)] ⟨rfl, rfl, rfl, trivial⟩ (fun e36 => ?_)
                    refine r_cond rfl (fun hc37 => ?_) (fun hc37 => ?_)
                    · skip
                      try simp only [decide_eq_true_eq, decide_eq_false_iff_not, Bool.not_eq_true', Bool.not_eq_false', Bool.not_not, Bool.not_true, Bool.not_false, Bool.not_eq_true, Bool.not_eq_false, Int.not_lt, Int.not_le, Bool.and_eq_true, Bool.or_eq_true, Bool.and_eq_false_iff, Bool.or_eq_false_iff] at hc37
                      refine r_skip ?_
                      refine r_seq ?_
                      refine r_block ?_
                      refine r_seq ?_
                      refine r_draw ext_refl' ext_trans' [0, 1, 2, 3, 4, 5, 6, 7, 8, 9, 10] [9] 6 (by kernel_rfl) (by kernel_rfl) ?_
                      intro w38 _ hE38
                      replace hB := below_ext hB hE38 hsz
                      replace hb1 := hb1.ext hE38
                      replace hsz := Nat.le_trans hsz hE38.size
                      refine m_q rfl rfl (fun w' hC' => q_fieldAddr (o' := 3) rfl fld28_3 rfl) ?_
                      refine m_q rfl rfl (fun w' hC' => q_load Try.isAgg26 rfl (((hb1.has (o := 3) rfl).ext hC')) rfl) ?_
                      refine m_q rfl rfl (fun w' hC' => q_move (v := .int _ _) rfl rfl) ?_
                      obtain ⟨b39, o39, ha39, hh39⟩ := (hda.below hB).at1 i2 ((ds).getD i2 0) (getD_some (by omega))
                      refine m_q rfl rfl (fun w' hC' => q_indexAddr1 Try.underlying26 Try.sizeOf3 rfl ha39 rfl (by omega) rfl) ?_
                      refine m_q rfl rfl (fun w' hC' => q_load Try.isAgg3 rfl ((hh39.ext hC')) rfl) ?_
                      refine m_q rfl rfl (fun w' hC' => q_fieldAddr (o' := 2) rfl fld28_2 rfl) ?_
                      refine m_q rfl rfl (fun w' hC' => q_load Try.isAgg25 rfl (((hb1.has (o := 2) rfl).ext hC')) rfl) ?_
                      refine m_q rfl rfl (fun w' hC' => q_len rfl Try.underlying25 rfl rfl) ?_
                      refine m_q rfl rfl (fun w' hC' => q_sub rfl rfl (by omega) rfl) ?_
                      refine m_o rfl rfl (o_call Try.call17 rfl (in4_ret _ _ _ _) rfl ?_)
                      rintro _ w40 ⟨rfl, rfl⟩
                      refine ⟨Ext.refl _, ?_⟩
                      refine m_q rfl rfl (fun w' hC' => q_not rfl rfl) ?_
                      refine m_nil ?_
                      refine r_forget [(1, .pointer _), (4, .int _ _), (71, .bool _)] ⟨rfl, rfl, rfl, trivial⟩ (fun e41 => ?_)
                      refine r_cond rfl (fun hc42 => ?_) (fun hc42 => ?_)
                      · skip
                        try simp only [decide_eq_true_eq, decide_eq_false_iff_not, Bool.not_eq_true', Bool.not_eq_false', Bool.not_not, Bool.not_true, Bool.not_false, Bool.not_eq_true, Bool.not_eq_false, Int.not_lt, Int.not_le, Bool.and_eq_true, Bool.or_eq_true, Bool.and_eq_false_iff, Bool.or_eq_false_iff] at hc42
                        refine r_seq ?_
                        refine r_region' ?_
                        refine l_q (q_assign (v := .int _ _) rfl rfl) ?_
                        refine l_nil ?_
                        refine r_forget [(2, .int _ _)] ⟨rfl, trivial⟩ (fun e43 => ?_)
                        refine r_ret_ (vs := [.int _ _]) rfl Try.func7 rfl (.nil _) ⟨rfl, trivial⟩ ?_
                        exact ⟨1, rfl, (fun h => absurd h (by decide)), Ext.of_below hB⟩
                      · skip
                        try simp only [decide_eq_true_eq, decide_eq_false_iff_not, Bool.not_eq_true', Bool.not_eq_false', Bool.not_not, Bool.not_true, Bool.not_false, Bool.not_eq_true, Bool.not_eq_false, Int.not_lt, Int.not_le, Bool.and_eq_true, Bool.or_eq_true, Bool.and_eq_false_iff, Bool.or_eq_false_iff] at hc42
                        refine r_skip ?_
                        refine r_inBlock ?_
                        refine r_region' ?_
                        refine l_q (q_move (v := .int _ _) rfl rfl) ?_
                        refine l_q (q_add rfl rfl (by omega) rfl) ?_
                        refine l_q (q_assign (v := .int _ _) rfl rfl) ?_
                        refine l_nil ?_
                        refine r_forget [(1, .pointer _), (4, .int _ _)] ⟨rfl, rfl, trivial⟩ (fun e44 => ?_)
                        exact ih35 (i2 + 1) _ _ ⟨⟨rfl, by first | rfl | exact vint_eq (by omega), trivial⟩, (by omega), (fun j hj => by rcases Nat.lt_succ_iff_lt_or_eq.1 hj with h | h; exact hgd j h; subst h; simp_all), hb1, hsz, hB⟩ (by first | omega | (dsimp only; omega))
                    · skip
                      try simp only [decide_eq_true_eq, decide_eq_false_iff_not, Bool.not_eq_true', Bool.not_eq_false', Bool.not_not, Bool.not_true, Bool.not_false, Bool.not_eq_true, Bool.not_eq_false, Int.not_lt, Int.not_le, Bool.and_eq_true, Bool.or_eq_true, Bool.and_eq_false_iff, Bool.or_eq_false_iff] at hc37
                      refine r_exit rfl ?_
                      refine r_seq ?_
                      refine r_region' ?_
                      refine l_q (q_assign (v := .int _ _) rfl rfl) ?_
                      refine l_nil ?_
                      refine r_forget [(2, .int _ _)] ⟨rfl, trivial⟩ (fun e45 => ?_)
                      refine r_ret_ (vs := [.int _ _]) rfl Try.func7 rfl (.nil _) ⟨rfl, trivial⟩ ?_
                      exact ⟨0, rfl, fun _ => ⟨⟨hPS, by omega, by omega⟩, ⟨fun h => by subst h; simp at g4, by omega⟩, ⟨fun h => by subst h; simp at g5, by omega⟩, all_get k0 (fun j hj => hgk j (by omega)), all_get 0 (fun j hj => hgd j (by omega))⟩, Ext.of_below hB⟩
theorem list4_ret (xa : Option Addr) (xc : Nat) (xs : List Int) (w : World) (hx : Row w xa xs.length xc 1 (xs.map vint)) (hxn : xs.length ≤ 2097152) : Ret Try.prog 28 [.slice xa xs.length xc] w (fun v w' => ∃ ra0 rc0, v = .slice ra0 (xs).length rc0 ∧ w'.ownsRow w.heap.size 3 1 (.slice ra0 (xs).length rc0) (xs).length ((xs).map vint) ∧ Ext w w') := by
  have hB := Below.refl w.heap.size w
  have hsz : w.heap.size ≤ w.heap.size := Nat.le_refl _
  refine ret_of_runs (args := [_]) Try.func28 rfl (Nat.le_of_ble_eq_true rfl) (by kernel_rfl) ?_
  refine r_seq ?_
  refine r_region' ?_
  refine l_q (q_assign (v := .slice _ _ _) rfl rfl) ?_
  refine l_nil ?_
  refine r_forget [(0, .slice _ _ _)] ⟨rfl, trivial⟩ (fun e1 => ?_)
  refine r_seq ?_
  refine r_region' ?_
  refine l_o (o_buildSlice (el := 3) (cs := []) Try.underlying26 el3 (by decide) (by kernel_rfl) rfl (by decide) rfl ?_)
  intro b2 w2 hzl2 hzr2 _ hb2 hE2 ho2
  have hbs_b2 : w.heap.size ≤ b2 := Nat.le_trans hsz hzl2
  replace hB := below_ext hB hE2 hsz
  replace hsz := Nat.le_trans hsz hE2.size
  refine l_q (q_move (v := .slice _ _ _) rfl rfl) ?_
  refine l_o (o_append_map (f := vint) ([]) (xs) Try.underlying26 el3 rfl rfl ho2 rfl (hx.below hB) (fun _ => rfl) (by (try simp only [List.length_append, List.length_cons, List.length_nil, List.length_take, List.length_drop, List.length_replicate]); omega) (by omega) rfl ?_)
  intro a3 c3 w3 hz3 ho3 hG3
  replace hB := below_own hB hG3 ho2 (by omega) hsz
  replace hsz := Nat.le_trans hsz hG3.size
  refine l_q (q_assign (v := .slice _ _ _) rfl rfl) ?_
  refine l_nil ?_
  refine r_forget [(2, .slice _ _ _)] ⟨rfl, trivial⟩ (fun e4 => ?_)
  refine r_ret_ (vs := [.slice _ _ _]) rfl Try.func28 rfl (.nil _) ⟨rfl, trivial⟩ ?_
  exact ⟨_, _, rfl, ho3, Ext.of_below hB⟩
theorem lkey_ret (m a s : Int) (w : World) : Ret Try.prog 29 [.agg ⟨[vint m, vint a, vint s]⟩] w (fun v w' => v = .agg ⟨[vint m, vint a, vint s]⟩ ∧ Ext w w') := by
  have hB := Below.refl w.heap.size w
  have hsz : w.heap.size ≤ w.heap.size := Nat.le_refl _
  refine ret_of_runs (args := [_]) Try.func29 rfl (Nat.le_of_ble_eq_true rfl) (by kernel_rfl) ?_
  refine r_seq ?_
  refine r_region' ?_
  refine l_o (o_box rfl rfl rfl ?_)
  intro b1 w1 hzl1 hzr1 _ hb1 hE1
  have hbs_b1 : w.heap.size ≤ b1 := Nat.le_trans hsz hzl1
  replace hB := below_ext hB hE1 hsz
  replace hsz := Nat.le_trans hsz hE1.size
  refine l_o (o_alloc Try.zeroValue54 rfl rfl ?_)
  intro b2 w2 hzl2 hzr2 _ hb2 hE2
  have hne_b1_b2 : b1 ≠ b2 := by have := hb1.lt; omega
  have hbs_b2 : w.heap.size ≤ b2 := Nat.le_trans hsz hzl2
  replace hB := below_ext hB hE2 hsz
  replace hb1 := hb1.ext hE2
  replace hsz := Nat.le_trans hsz hE2.size
  refine l_nil ?_
  refine r_forget [(1, .pointer _), (2, .pointer _)] ⟨rfl, rfl, trivial⟩ (fun e3 => ?_)
  refine r_seq ?_
  refine r_region' ?_
  refine l_q (q_fieldAddr (o' := 0) rfl fld53_0 rfl) ?_
  refine l_q (q_load Try.isAgg3 rfl ((hb1.has (o := 0) rfl)) rfl) ?_
  refine l_q (q_fieldAddr (o' := 1) rfl fld53_1 rfl) ?_
  refine l_q (q_load Try.isAgg3 rfl ((hb1.has (o := 1) rfl)) rfl) ?_
  refine l_q (q_fieldAddr (o' := 2) rfl fld53_2 rfl) ?_
  refine l_q (q_load Try.isAgg3 rfl ((hb1.has (o := 2) rfl)) rfl) ?_
  refine l_q (q_build (v := .agg ⟨[vint m, vint a, vint s]⟩) (fun w => by kernel_rfl) rfl) ?_
  refine l_o (o_store (vs := [vint m, vint a, vint s]) (cs' := [vint m, vint a, vint s]) Try.sizeOf54 rfl rfl rfl rfl hb2 (Nat.le_of_ble_eq_true rfl) rfl rfl ?_)
  intro w4 hz4 hb2 hG4
  replace hB := below_upd hB hG4 hsz (by omega)
  replace hsz : w.heap.size ≤ w4.heap.size := by rw [hz4]; exact hsz
  replace hb1 := hb1.upd hG4 (by omega)
  refine l_nil ?_
  refine r_forget [(2, .pointer _)] ⟨rfl, trivial⟩ (fun e5 => ?_)
  refine r_ret_ (vs := [.agg _]) rfl Try.func29 rfl (.nil _) ⟨⟨_, _, rfl, run_loadVarA Try.isAgg54 Try.sizeOf54 (hb2.cells' (cs' := [_, _, _]) 0 3 rfl) rfl⟩, trivial⟩ ?_
  exact ⟨rfl, Ext.of_below hB⟩
theorem lbook_ret (S W : Int) (ka : Option Addr) (kc : Nat) (da : Option Addr) (dc : Nat) (ks : List K3) (ds : List Int) (w : World) (hka : Row w ka ks.length kc 3 (ks.flatMap K3.enc)) (hda : Row w da ds.length dc 1 (ds.map vint)) (hkn : ks.length ≤ 2097152) (hdn : ds.length ≤ 2097152) : Ret Try.prog 11 [.agg ⟨[vint S, vint W, .slice ka ks.length kc, .slice da ds.length dc]⟩] w (fun v w' => ∃ ka' kc' da' dc', v = .agg ⟨[vint S, vint W, .slice ka' ks.length kc', .slice da' ds.length dc']⟩ ∧ Row w' ka' ks.length kc' 3 (ks.flatMap K3.enc) ∧ Row w' da' ds.length dc' 1 (ds.map vint) ∧ Ext w w') := by
  have hB := Below.refl w.heap.size w
  have hsz : w.heap.size ≤ w.heap.size := Nat.le_refl _
  refine ret_of_runs (args := [_]) Try.func11 rfl (Nat.le_of_ble_eq_true rfl) (by kernel_rfl) ?_
  refine r_seq ?_
  refine r_region' ?_
  refine l_o (o_box rfl rfl rfl ?_)
  intro b1 w1 hzl1 hzr1 _ hb1 hE1
  have hbs_b1 : w.heap.size ≤ b1 := Nat.le_trans hsz hzl1
  replace hB := below_ext hB hE1 hsz
  replace hsz := Nat.le_trans hsz hE1.size
  refine l_o (o_alloc Try.zeroValue41 rfl rfl ?_)
  intro b2 w2 hzl2 hzr2 _ hb2 hE2
  have hne_b1_b2 : b1 ≠ b2 := by have := hb1.lt; omega
  have hbs_b2 : w.heap.size ≤ b2 := Nat.le_trans hsz hzl2
  replace hB := below_ext hB hE2 hsz
  replace hb1 := hb1.ext hE2
  replace hsz := Nat.le_trans hsz hE2.size
  refine l_nil ?_
  refine r_forget [(1, .pointer _), (2, .pointer _)] ⟨rfl, rfl, trivial⟩ (fun e3 => ?_)
  refine r_seq ?_
  refine r_draw3 ext_refl' ext_trans' (.op 0 (.op 1 (.op 2 (.op 3 (.op 4 (.op 5 (.fork 8 (.op 6 (.op 7 (.op 9 (.done)))) (.op 6 (.op 7 (.op 8 (.op 9 (.done)))))))))))) [6, 8, 9, 1009] 9 (by kernel_rfl) (by kernel_rfl) ?_
  intro w4 _ hE4
  replace hB := below_ext hB hE4 hsz
  replace hb1 := hb1.ext hE4
  replace hb2 := hb2.ext hE4
  replace hsz := Nat.le_trans hsz hE4.size
  refine m_q3 rfl rfl (fun w' hC' => q_fieldAddr (o' := 0) rfl fld28_0 rfl) ?_
  refine m_q3 rfl rfl (fun w' hC' => q_load Try.isAgg3 rfl (((hb1.has (o := 0) rfl).ext hC')) rfl) ?_
  refine m_q3 rfl rfl (fun w' hC' => q_fieldAddr (o' := 1) rfl fld28_1 rfl) ?_
  refine m_q3 rfl rfl (fun w' hC' => q_load Try.isAgg3 rfl (((hb1.has (o := 1) rfl).ext hC')) rfl) ?_
  refine m_q3 rfl rfl (fun w' hC' => q_fieldAddr (o' := 3) rfl fld28_3 rfl) ?_
  refine m_q3 rfl rfl (fun w' hC' => q_load Try.isAgg26 rfl (((hb1.has (o := 3) rfl).ext hC')) rfl) ?_
  refine m_fork3 ?_ ?_
  · skip
    refine m_o3 rfl rfl (o_alloc Try.zeroValue41 rfl rfl ?_)
    intro b5 w5 hzl5 hzr5 _ hb5 hE5
    refine ⟨hE5, ?_⟩
    have hne_b1_b5 : b1 ≠ b5 := by have := hb1.lt; omega
    have hne_b2_b5 : b2 ≠ b5 := by have := hb2.lt; omega
    have hbs_b5 : w.heap.size ≤ b5 := Nat.le_trans hsz hzl5
    replace hB := below_ext hB hE5 hsz
    replace hb1 := hb1.ext hE5
    replace hb2 := hb2.ext hE5
    replace hsz := Nat.le_trans hsz hE5.size
    have hbl_b1 := hb1.lt
    have hbl_b2 := hb2.lt
    have hbl_b5 := hb5.lt
    refine m_o3 rfl rfl (o_call Try.call28 rfl (list4_ret _ _ ds _ (hda.below hB) (by omega)) rfl ?_)
    rintro _ w6 ⟨a6_0, c6_0, rfl, ho6_0, hE6⟩
    replace ho6_0 := own_mono ho6_0 (show w5.heap.size ≤ _ by omega)
    refine ⟨hE6, ?_⟩
    replace hB := below_ext hB hE6 hsz
    replace hb1 := hb1.ext hE6
    replace hb2 := hb2.ext hE6
    replace hb5 := hb5.ext hE6
    replace hsz := Nat.le_trans hsz hE6.size
    refine m_q3 rfl rfl (fun w' hC' => q_build (v := .agg ⟨[vint S, vint W, .slice none 0 0, .slice a6_0 ((ds).length) c6_0]⟩) (fun w => by kernel_rfl) rfl) ?_
    refine m_last3 rfl rfl rfl (o_store (vs := [vint S, vint W, .slice none 0 0, .slice a6_0 ((ds).length) c6_0]) (cs' := [vint S, vint W, .slice none 0 0, .slice a6_0 ((ds).length) c6_0]) Try.sizeOf41 rfl rfl rfl rfl hb5 (Nat.le_of_ble_eq_true rfl) rfl rfl ?_)
    intro w7 hz7 hb5 hG7
    replace hB := below_upd hB hG7 hsz (by omega)
    replace hsz : w.heap.size ≤ w7.heap.size := by rw [hz7]; exact hsz
    replace hb1 := hb1.upd hG7 (by omega)
    replace hb2 := hb2.upd hG7 (by omega)
    replace ho6_0 := own_updne ho6_0 hG7 (by first | assumption | (intro g hg; have := (ho6_0.lt g hg).1; omega))
    refine m_nil3 ?_
    refine r_forget [(1, .pointer _), (2, .pointer _), (3, .pointer _)] ⟨rfl, rfl, rfl, trivial⟩ (fun e8 => ?_)
    refine r_seq ?_
    refine r_seq ?_
    have hb3 := hb5
    have hlt2 := hb2.lt
    have hlt3 := hb3.lt
    refine r_region' ?_
    refine l_q (q_assign (v := .int _ _) rfl rfl) ?_
    refine l_nil ?_
    refine r_block ?_
    refine r_rounds (α := Nat × (Option Addr) × Nat) (fun ⟨k, oa, oc⟩ e wl => Knows e [(1, ptr b1 0), (2, ptr b2 0), (3, ptr b5 0), (4, vint (k : Int))] ∧ (k ≤ ks.length) ∧ (wl.ownsRow (max b2 b5 + 1) 54 3 (.slice oa ((ks.take k).length) oc) ((ks.take k).length) ((ks.take k).flatMap K3.enc)) ∧ (Blk wl b5 [vint S, vint W, .slice oa ((ks.take k).length) oc, .slice a6_0 ((ds).length) c6_0]) ∧ (Blk wl b1 [vint S, vint W, .slice ka ks.length kc, .slice da ds.length dc]) ∧ (Blk wl b2 [vint 0, vint 0, .slice none 0 0, .slice none 0 0]) ∧ (wl.ownsRow w5.heap.size 3 1 (.slice a6_0 ((ds).length) c6_0) ((ds).length) ((ds).map vint)) ∧ (w.heap.size ≤ wl.heap.size) ∧ (Below w.heap.size w wl)) (fun ⟨k, oa, oc⟩ => ks.length - k) (0, none, 0) ?_ ?_
    · skip
      exact ⟨⟨rfl, rfl, rfl, rfl, trivial⟩, (Nat.zero_le _), (World.ownsRow_nil _ _ _ _), hb3, hb1, hb2, ho6_0, hsz, hB⟩
    · skip
      rintro ⟨k, oa, oc⟩ el9 wl9 ⟨hkn, hkk, hoK, hb3, hb1, hb2, ho6_0, hsz, hB⟩ ih9
      obtain ⟨e9, rfl⟩ := knows_env hkn
      refine r_seq ?_
      refine r_seq ?_
      refine r_region' ?_
      refine l_q (q_move (v := .int _ _) rfl rfl) ?_
      refine l_q (q_fieldAddr (o' := 2) rfl fld28_2 rfl) ?_
      refine l_q (q_load Try.isAgg25 rfl ((hb1.has (o := 2) rfl)) rfl) ?_
      have hbl_b1 := hb1.lt
      have hbl_b2 := hb2.lt
      have hbl_b5 := hb3.lt
      refine l_q (q_len rfl Try.underlying25 rfl rfl) ?_
      refine l_q (q_lss rfl rfl rfl) ?_
      refine l_nil ?_
      refine r_forget [(1, .pointer _), (2, .pointer _), (3, .pointer _), (4, .int _ _), (17, .bool _)] ⟨rfl, rfl, rfl, rfl, rfl, trivial⟩ (fun e10 => ?_)
      refine r_cond rfl (fun hc11 => ?_) (fun hc11 => ?_)
      · skip
        try simp only [decide_eq_true_eq, decide_eq_false_iff_not, Bool.not_eq_true', Bool.not_eq_false', Bool.not_not, Bool.not_true, Bool.not_false, Bool.not_eq_true, Bool.not_eq_false, Int.not_lt, Int.not_le, Bool.and_eq_true, Bool.or_eq_true, Bool.and_eq_false_iff, Bool.or_eq_false_iff] at hc11
        refine r_skip ?_
        refine r_seq ?_
        refine r_block ?_
        refine r_draw ext_refl' ext_trans' [0, 1, 2, 3, 4, 5, 6, 7, 8, 9, 10, 11] [7, 8, 9, 11, 1009, 1011] 8 (by kernel_rfl) (by kernel_rfl) ?_
        intro w12 _ hE12
        replace hB := below_ext hB hE12 hsz
        replace hb1 := hb1.ext hE12
        replace hb2 := hb2.ext hE12
        replace ho6_0 := own_ext ho6_0 hE12
        replace hb3 := hb3.ext hE12
        replace hoK := own_ext hoK hE12
        replace hsz := Nat.le_trans hsz hE12.size
        refine m_q rfl rfl (fun w' hC' => q_fieldAddr (o' := 2) rfl fld41_2 rfl) ?_
        refine m_q rfl rfl (fun w' hC' => q_load Try.isAgg39 rfl (((hb3.has (o := 2) rfl).ext hC')) rfl) ?_
        refine m_q rfl rfl (fun w' hC' => q_fieldAddr (o' := 2) rfl fld28_2 rfl) ?_
        refine m_q rfl rfl (fun w' hC' => q_load Try.isAgg25 rfl (((hb1.has (o := 2) rfl).ext hC')) rfl) ?_
        refine m_q rfl rfl (fun w' hC' => q_move (v := .int _ _) rfl rfl) ?_
        obtain ⟨b13, o13, ha13, hh13⟩ := (hka.below hB).at (by decide) k (by omega)
        refine m_q rfl rfl (fun w' hC' => q_indexAddr Try.underlying25 Try.sizeOf53 rfl ha13 rfl (by omega) rfl) ?_
        refine m_q rfl rfl (fun w' hC' => q_load_agg (cs := [vint (((ks).getD k k0).m), vint (((ks).getD k k0).a), vint (((ks).getD k k0).s)]) (n := 3) Try.isAgg53 Try.sizeOf53 rfl (((cells_cast (wide_at K3.len k0 _ _ (by omega)) hh13).ext hC')) rfl rfl) ?_
        have hbl_b1 := hb1.lt
        have hbl_b2 := hb2.lt
        have hbl_b5 := hb3.lt
        refine m_o rfl rfl (o_call Try.call29 rfl (lkey_ret (((ks).getD k k0).m) (((ks).getD k k0).a) (((ks).getD k k0).s) _) rfl ?_)
        rintro _ w14 ⟨rfl, hE14⟩
        refine ⟨hE14, ?_⟩
        replace hB := below_ext hB hE14 hsz
        replace hb1 := hb1.ext hE14
        replace hb2 := hb2.ext hE14
        replace ho6_0 := own_ext ho6_0 hE14
        replace hb3 := hb3.ext hE14
        replace hoK := own_ext hoK hE14
        replace hsz := Nat.le_trans hsz hE14.size
        have hbl_b1 := hb1.lt
        have hbl_b2 := hb2.lt
        have hbl_b5 := hb3.lt
        refine m_o rfl rfl (o_buildSlice (el := 54) (cs := [vint (((ks).getD k k0).m), vint (((ks).getD k k0).a), vint (((ks).getD k k0).s)]) Try.underlying39 el54 (by decide) (by kernel_rfl) rfl (by decide) rfl ?_)
        intro b15 w15 hzl15 hzr15 _ hb15 hE15 ho15
        refine ⟨hE15, ?_⟩
        have hne_b1_b15 : b1 ≠ b15 := by have := hb1.lt; omega
        have hne_b2_b15 : b2 ≠ b15 := by have := hb2.lt; omega
        have hne_b5_b15 : b5 ≠ b15 := by have := hb3.lt; omega
        have hno_ho6_0_b15 : ∀ g, (Value.slice a6_0 ((ds).length) c6_0).ownBlock = some g → g ≠ b15 := fun g hg => by have := (ho6_0.lt g hg).2; omega
        have hno_hoK_b15 : ∀ g, (Value.slice oa ((ks.take k).length) oc).ownBlock = some g → g ≠ b15 := fun g hg => by have := (hoK.lt g hg).2; omega
        have hbs_b15 : w.heap.size ≤ b15 := Nat.le_trans hsz hzl15
        replace hB := below_ext hB hE15 hsz
        replace hb1 := hb1.ext hE15
        replace hb2 := hb2.ext hE15
        replace ho6_0 := own_ext ho6_0 hE15
        replace hb3 := hb3.ext hE15
        replace hoK := own_ext hoK hE15
        replace hsz := Nat.le_trans hsz hE15.size
        replace ho15 := own_mono ho15 (show max b2 b5 + 1 ≤ _ by omega)
        have hbl_b1 := hb1.lt
        have hbl_b2 := hb2.lt
        have hbl_b5 := hb3.lt
        refine m_last rfl rfl rfl (o_append_wide K3.one (ks.take k) (([⟨((ks).getD k k0).m, ((ks).getD k k0).a, ((ks).getD k k0).s⟩] : List K3)) Try.underlying39 el54 rfl rfl hoK rfl (Row.of_owns ho15) (by (try simp only [List.length_append, List.length_cons, List.length_nil, List.length_take, List.length_drop, List.length_replicate]); omega) (by omega) rfl ?_)
        intro a17 c17 w17 hz17 ho17 hG17
        replace hB := below_own hB hG17 hoK (by omega) hsz
        replace hsz := Nat.le_trans hsz hG17.size
        replace hb1 := hb1.step hG17 (own_ne hoK (by omega))
        replace hb2 := hb2.step hG17 (own_ne hoK (by omega))
        replace ho6_0 := own_kept ho6_0 hoK (by decide) hG17
        replace hb3 := hb3.step hG17 (own_ne hoK (by omega))
        refine m_q rfl rfl (fun w' hC' => q_fieldAddr (o' := 2) rfl fld41_2 rfl) ?_
        refine m_last rfl rfl rfl (o_store (vs := [.slice a17 (((ks.take k) ++ ([⟨((ks).getD k k0).m, ((ks).getD k k0).a, ((ks).getD k k0).s⟩] : List K3)).length) c17]) (cs' := [vint S, vint W, .slice a17 (((ks.take k) ++ ([⟨((ks).getD k k0).m, ((ks).getD k k0).a, ((ks).getD k k0).s⟩] : List K3)).length) c17, .slice a6_0 ((ds).length) c6_0]) Try.sizeOf39 rfl rfl rfl rfl hb3 (Nat.le_of_ble_eq_true rfl) rfl rfl ?_)
        intro w18 hz18 hb3 hG18
        replace hB := below_upd hB hG18 hsz (by omega)
        replace hsz : w.heap.size ≤ w18.heap.size := by rw [hz18]; exact hsz
        replace hb1 := hb1.upd hG18 (by omega)
        replace hb2 := hb2.upd hG18 (by omega)
        replace ho6_0 := own_updne ho6_0 hG18 (by first | assumption | (intro g hg; have := (ho6_0.lt g hg).1; omega))
        replace ho17 := own_updne ho17 hG18 (by first | assumption | (intro g hg; have := (ho17.lt g hg).1; omega))
        refine m_nil ?_
        refine r_forget [(1, .pointer _), (2, .pointer _), (3, .pointer _), (4, .int _ _)] ⟨rfl, rfl, rfl, rfl, trivial⟩ (fun e19 => ?_)
        refine r_inBlock ?_
        refine r_region' ?_
        refine l_q (q_move (v := .int _ _) rfl rfl) ?_
        refine l_q (q_add rfl rfl (by omega) rfl) ?_
        refine l_q (q_assign (v := .int _ _) rfl rfl) ?_
        refine l_nil ?_
        refine r_forget [(1, .pointer _), (2, .pointer _), (3, .pointer _), (4, .int _ _)] ⟨rfl, rfl, rfl, rfl, trivial⟩ (fun e20 => ?_)
        have hst := k_take (ks := ks) (k := k) (by omega)
        exact ih9 (k + 1, a17, c17) _ _ ⟨⟨rfl, rfl, rfl, by first | rfl | exact vint_eq (by omega), trivial⟩, (by omega), (hst ▸ ho17), (hst ▸ hb3), hb1, hb2, ho6_0, hsz, hB⟩ (by first | omega | (dsimp only; omega))
      · skip
        try simp only [decide_eq_true_eq, decide_eq_false_iff_not, Bool.not_eq_true', Bool.not_eq_false', Bool.not_not, Bool.not_true, Bool.not_false, Bool.not_eq_true, Bool.not_eq_false, Int.not_lt, Int.not_le, Bool.and_eq_true, Bool.or_eq_true, Bool.and_eq_false_iff, Bool.or_eq_false_iff] at hc11
        refine r_exit rfl ?_
        refine r_seq ?_
        refine r_region' ?_
        refine l_q (q_load_agg (n := 4) Try.isAgg41 Try.sizeOf41 rfl ((hb3.cells' (cs' := [_, _, _, _]) 0 4 rfl)) rfl rfl) ?_
        refine l_o (o_store (vs := [vint S, vint W, .slice oa ((ks.take k).length) oc, .slice a6_0 ((ds).length) c6_0]) (cs' := [vint S, vint W, .slice oa ((ks.take k).length) oc, .slice a6_0 ((ds).length) c6_0]) Try.sizeOf41 rfl rfl rfl rfl hb2 (Nat.le_of_ble_eq_true rfl) rfl rfl ?_)
        intro w21 hz21 hb2 hG21
        replace hB := below_upd hB hG21 hsz (by omega)
        replace hsz : w.heap.size ≤ w21.heap.size := by rw [hz21]; exact hsz
        replace hb1 := hb1.upd hG21 (by omega)
        replace ho6_0 := own_updne ho6_0 hG21 (by first | assumption | (intro g hg; have := (ho6_0.lt g hg).1; omega))
        replace hb3 := hb3.upd hG21 (by omega)
        replace hoK := own_updne hoK hG21 (by first | assumption | (intro g hg; have := (hoK.lt g hg).1; omega))
        refine l_nil ?_
        refine r_forget [(2, .pointer _)] ⟨rfl, trivial⟩ (fun e22 => ?_)
        refine r_ret_ (vs := [.agg _]) rfl Try.func11 rfl (.nil _) ⟨⟨_, _, rfl, run_loadVarA Try.isAgg41 Try.sizeOf41 (hb2.cells' (cs' := [_, _, _, _]) 0 4 rfl) rfl⟩, trivial⟩ ?_
        have hkk : k = ks.length := by omega
        subst hkk
        rw [List.take_length] at hoK
        exact ⟨oa, oc, a6_0, c6_0, by rw [List.take_length]; rfl, Row.of_owns hoK, (Row.of_owns ho6_0), Ext.of_below hB⟩
  · skip
    have hbl_b1 := hb1.lt
    have hbl_b2 := hb2.lt
    refine m_o3 rfl rfl (o_call Try.call28 rfl (list4_ret _ _ ds _ (hda.below hB) (by omega)) rfl ?_)
    rintro _ w23 ⟨a23_0, c23_0, rfl, ho23_0, hE23⟩
    replace ho23_0 := own_mono ho23_0 (show w4.heap.size ≤ _ by omega)
    refine ⟨hE23, ?_⟩
    replace hB := below_ext hB hE23 hsz
    replace hb1 := hb1.ext hE23
    replace hb2 := hb2.ext hE23
    replace hsz := Nat.le_trans hsz hE23.size
    refine m_q3 rfl rfl (fun w' hC' => q_build (v := .agg ⟨[vint S, vint W, .slice none 0 0, .slice a23_0 ((ds).length) c23_0]⟩) (fun w => by kernel_rfl) rfl) ?_
    refine m_o3 rfl rfl (o_alloc Try.zeroValue41 rfl rfl ?_)
    intro b24 w24 hzl24 hzr24 _ hb24 hE24
    refine ⟨hE24, ?_⟩
    have hne_b1_b24 : b1 ≠ b24 := by have := hb1.lt; omega
    have hne_b2_b24 : b2 ≠ b24 := by have := hb2.lt; omega
    have hno_ho23_0_b24 : ∀ g, (Value.slice a23_0 ((ds).length) c23_0).ownBlock = some g → g ≠ b24 := fun g hg => by have := (ho23_0.lt g hg).2; omega
    have hbs_b24 : w.heap.size ≤ b24 := Nat.le_trans hsz hzl24
    replace hB := below_ext hB hE24 hsz
    replace hb1 := hb1.ext hE24
    replace hb2 := hb2.ext hE24
    replace ho23_0 := own_ext ho23_0 hE24
    replace hsz := Nat.le_trans hsz hE24.size
    refine m_last3 rfl rfl rfl (o_store (vs := [vint S, vint W, .slice none 0 0, .slice a23_0 ((ds).length) c23_0]) (cs' := [vint S, vint W, .slice none 0 0, .slice a23_0 ((ds).length) c23_0]) Try.sizeOf41 rfl rfl rfl rfl hb24 (Nat.le_of_ble_eq_true rfl) rfl rfl ?_)
    intro w25 hz25 hb24 hG25
    replace hB := below_upd hB hG25 hsz (by omega)
    replace hsz : w.heap.size ≤ w25.heap.size := by rw [hz25]; exact hsz
    replace hb1 := hb1.upd hG25 (by omega)
    replace hb2 := hb2.upd hG25 (by omega)
    replace ho23_0 := own_updne ho23_0 hG25 (by first | assumption | (intro g hg; have := (ho23_0.lt g hg).1; omega))
    refine m_nil3 ?_
    refine r_forget [(1, .pointer _), (2, .pointer _), (3, .pointer _)] ⟨rfl, rfl, rfl, trivial⟩ (fun e26 => ?_)
    refine r_seq ?_
    refine r_seq ?_
    have hb3 := hb24
    have hlt2 := hb2.lt
    have hlt3 := hb3.lt
    refine r_region' ?_
    refine l_q (q_assign (v := .int _ _) rfl rfl) ?_
    refine l_nil ?_
    refine r_block ?_
    refine r_rounds (α := Nat × (Option Addr) × Nat) (fun ⟨k, oa, oc⟩ e wl => Knows e [(1, ptr b1 0), (2, ptr b2 0), (3, ptr b24 0), (4, vint (k : Int))] ∧ (k ≤ ks.length) ∧ (wl.ownsRow (max b2 b24 + 1) 54 3 (.slice oa ((ks.take k).length) oc) ((ks.take k).length) ((ks.take k).flatMap K3.enc)) ∧ (Blk wl b24 [vint S, vint W, .slice oa ((ks.take k).length) oc, .slice a23_0 ((ds).length) c23_0]) ∧ (Blk wl b1 [vint S, vint W, .slice ka ks.length kc, .slice da ds.length dc]) ∧ (Blk wl b2 [vint 0, vint 0, .slice none 0 0, .slice none 0 0]) ∧ (wl.ownsRow w4.heap.size 3 1 (.slice a23_0 ((ds).length) c23_0) ((ds).length) ((ds).map vint)) ∧ (w.heap.size ≤ wl.heap.size) ∧ (Below w.heap.size w wl)) (fun ⟨k, oa, oc⟩ => ks.length - k) (0, none, 0) ?_ ?_
    · skip
      exact ⟨⟨rfl, rfl, rfl, rfl, trivial⟩, (Nat.zero_le _), (World.ownsRow_nil _ _ _ _), hb3, hb1, hb2, ho23_0, hsz, hB⟩
    · skip
      rintro ⟨k, oa, oc⟩ el27 wl27 ⟨hkn, hkk, hoK, hb3, hb1, hb2, ho23_0, hsz, hB⟩ ih27
      obtain ⟨e27, rfl⟩ := knows_env hkn
      refine r_seq ?_
      refine r_seq ?_
      refine r_region' ?_
      refine l_q (q_move (v := .int _ _) rfl rfl) ?_
      refine l_q (q_fieldAddr (o' := 2) rfl fld28_2 rfl) ?_
      refine l_q (q_load Try.isAgg25 rfl ((hb1.has (o := 2) rfl)) rfl) ?_
      have hbl_b1 := hb1.lt
      have hbl_b2 := hb2.lt
      have hbl_b24 := hb3.lt
      refine l_q (q_len rfl Try.underlying25 rfl rfl) ?_
      refine l_q (q_lss rfl rfl rfl) ?_
      refine l_nil ?_
      refine r_forget [(1, .pointer _), (2, .pointer _), (3, .pointer _), (4, .int _ _), (17, .bool _)] ⟨rfl, rfl, rfl, rfl, rfl, trivial⟩ (fun e28 => ?_)
      refine r_cond rfl (fun hc29 => ?_) (fun hc29 => ?_)
      · skip
        try simp only [decide_eq_true_eq, decide_eq_false_iff_not, Bool.not_eq_true', Bool.not_eq_false', Bool.not_not, Bool.not_true, Bool.not_false, Bool.not_eq_true, Bool.not_eq_false, Int.not_lt, Int.not_le, Bool.and_eq_true, Bool.or_eq_true, Bool.and_eq_false_iff, Bool.or_eq_false_iff] at hc29
        refine r_skip ?_
        refine r_seq ?_
        refine r_block ?_
        refine r_draw ext_refl' ext_trans' [0, 1, 2, 3, 4, 5, 6, 7, 8, 9, 10, 11] [7, 8, 9, 11, 1009, 1011] 8 (by kernel_rfl) (by kernel_rfl) ?_
        intro w30 _ hE30
        replace hB := below_ext hB hE30 hsz
        replace hb1 := hb1.ext hE30
        replace hb2 := hb2.ext hE30
        replace ho23_0 := own_ext ho23_0 hE30
        replace hb3 := hb3.ext hE30
        replace hoK := own_ext hoK hE30
        replace hsz := Nat.le_trans hsz hE30.size
        refine m_q rfl rfl (fun w' hC' => q_fieldAddr (o' := 2) rfl fld41_2 rfl) ?_
        refine m_q rfl rfl (fun w' hC' => q_load Try.isAgg39 rfl (((hb3.has (o := 2) rfl).ext hC')) rfl) ?_
        refine m_q rfl rfl (fun w' hC' => q_fieldAddr (o' := 2) rfl fld28_2 rfl) ?_
        refine m_q rfl rfl (fun w' hC' => q_load Try.isAgg25 rfl (((hb1.has (o := 2) rfl).ext hC')) rfl) ?_
        refine m_q rfl rfl (fun w' hC' => q_move (v := .int _ _) rfl rfl) ?_
        obtain ⟨b31, o31, ha31, hh31⟩ := (hka.below hB).at (by decide) k (by omega)
        refine m_q rfl rfl (fun w' hC' => q_indexAddr Try.underlying25 Try.sizeOf53 rfl ha31 rfl (by omega) rfl) ?_
        refine m_q rfl rfl (fun w' hC' => q_load_agg (cs := [vint (((ks).getD k k0).m), vint (((ks).getD k k0).a), vint (((ks).getD k k0).s)]) (n := 3) Try.isAgg53 Try.sizeOf53 rfl (((cells_cast (wide_at K3.len k0 _ _ (by omega)) hh31).ext hC')) rfl rfl) ?_
        have hbl_b1 := hb1.lt
        have hbl_b2 := hb2.lt
        have hbl_b24 := hb3.lt
        refine m_o rfl rfl (o_call Try.call29 rfl (lkey_ret (((ks).getD k k0).m) (((ks).getD k k0).a) (((ks).getD k k0).s) _) rfl ?_)
        rintro _ w32 ⟨rfl, hE32⟩
        refine ⟨hE32, ?_⟩
        replace hB := below_ext hB hE32 hsz
        replace hb1 := hb1.ext hE32
        replace hb2 := hb2.ext hE32
        replace ho23_0 := own_ext ho23_0 hE32
        replace hb3 := hb3.ext hE32
        replace hoK := own_ext hoK hE32
        replace hsz := Nat.le_trans hsz hE32.size
        have hbl_b1 := hb1.lt
        have hbl_b2 := hb2.lt
        have hbl_b24 := hb3.lt
        refine m_o rfl rfl (o_buildSlice (el := 54) (cs := [vint (((ks).getD k k0).m), vint (((ks).getD k k0).a), vint (((ks).getD k k0).s)]) Try.underlying39 el54 (by decide) (by kernel_rfl) rfl (by decide) rfl ?_)
        intro b33 w33 hzl33 hzr33 _ hb33 hE33 ho33
        refine ⟨hE33, ?_⟩
        have hne_b1_b33 : b1 ≠ b33 := by have := hb1.lt; omega
        have hne_b2_b33 : b2 ≠ b33 := by have := hb2.lt; omega
        have hne_b24_b33 : b24 ≠ b33 := by have := hb3.lt; omega
        have hno_ho23_0_b33 : ∀ g, (Value.slice a23_0 ((ds).length) c23_0).ownBlock = some g → g ≠ b33 := fun g hg => by have := (ho23_0.lt g hg).2; omega
        have hno_hoK_b33 : ∀ g, (Value.slice oa ((ks.take k).length) oc).ownBlock = some g → g ≠ b33 := fun g hg => by have := (hoK.lt g hg).2; omega
        have hbs_b33 : w.heap.size ≤ b33 := Nat.le_trans hsz hzl33
        replace hB := below_ext hB hE33 hsz
        replace hb1 := hb1.ext hE33
        replace hb2 := hb2.ext hE33
        replace ho23_0 := own_ext ho23_0 hE33
        replace hb3 := hb3.ext hE33
        replace hoK := own_ext hoK hE33
        replace hsz := Nat.le_trans hsz hE33.size
        replace ho33 := own_mono ho33 (show max b2 b24 + 1 ≤ _ by omega)
        have hbl_b1 := hb1.lt
        have hbl_b2 := hb2.lt
        have hbl_b24 := hb3.lt
        refine m_last rfl rfl rfl (o_append_wide K3.one (ks.take k) (([⟨((ks).getD k k0).m, ((ks).getD k k0).a, ((ks).getD k k0).s⟩] : List K3)) Try.underlying39 el54 rfl rfl hoK rfl (Row.of_owns ho33) (by (try simp only [List.length_append, List.length_cons, List.length_nil, List.length_take, List.length_drop, List.length_replicate]); omega) (by omega) rfl ?_)
        intro a35 c35 w35 hz35 ho35 hG35
        replace hB := below_own hB hG35 hoK (by omega) hsz
        replace hsz := Nat.le_trans hsz hG35.size
        replace hb1 := hb1.step hG35 (own_ne hoK (by omega))
        replace hb2 := hb2.step hG35 (own_ne hoK (by omega))
        replace ho23_0 := own_kept ho23_0 hoK (by decide) hG35
        replace hb3 := hb3.step hG35 (own_ne hoK (by omega))
        refine m_q rfl rfl (fun w' hC' => q_fieldAddr (o' := 2) rfl fld41_2 rfl) ?_
        refine m_last rfl rfl rfl (o_store (vs := [.slice a35 (((ks.take k) ++ ([⟨((ks).getD k k0).m, ((ks).getD k k0).a, ((ks).getD k k0).s⟩] : List K3)).length) c35]) (cs' := [vint S, vint W, .slice a35 (((ks.take k) ++ ([⟨((ks).getD k k0).m, ((ks).getD k k0).a, ((ks).getD k k0).s⟩] : List K3)).length) c35, .slice a23_0 ((ds).length) c23_0]) Try.sizeOf39 rfl rfl rfl rfl hb3 (Nat.le_of_ble_eq_true rfl) rfl rfl ?_)
        intro w36 hz36 hb3 hG36
        replace hB := below_upd hB hG36 hsz (by omega)
        replace hsz : w.heap.size ≤ w36.heap.size := by rw [hz36]; exact hsz
        replace hb1 := hb1.upd hG36 (by omega)
        replace hb2 := hb2.upd hG36 (by omega)
        replace ho23_0 := own_updne ho23_0 hG36 (by first | assumption | (intro g hg; have := (ho23_0.lt g hg).1; omega))
        replace ho35 := own_updne ho35 hG36 (by first | assumption | (intro g hg; have := (ho35.lt g hg).1; omega))
        refine m_nil ?_
        refine r_forget [(1, .pointer _), (2, .pointer _), (3, .pointer _), (4, .int _ _)] ⟨rfl, rfl, rfl, rfl, trivial⟩ (fun e37 => ?_)
        refine r_inBlock ?_
        refine r_region' ?_
        refine l_q (q_move (v := .int _ _) rfl rfl) ?_
        refine l_q (q_add rfl rfl (by omega) rfl) ?_
        refine l_q (q_assign (v := .int _ _) rfl rfl) ?_
        refine l_nil ?_
        refine r_forget [(1, .pointer _), (2, .pointer _), (3, .pointer _), (4, .int _ _)] ⟨rfl, rfl, rfl, rfl, trivial⟩ (fun e38 => ?_)
        have hst := k_take (ks := ks) (k := k) (by omega)
        exact ih27 (k + 1, a35, c35) _ _ ⟨⟨rfl, rfl, rfl, by first | rfl | exact vint_eq (by omega), trivial⟩, (by omega), (hst ▸ ho35), (hst ▸ hb3), hb1, hb2, ho23_0, hsz, hB⟩ (by first | omega | (dsimp only; omega))
      · skip
        try simp only [decide_eq_true_eq, decide_eq_false_iff_not, Bool.not_eq_true', Bool.not_eq_false', Bool.not_not, Bool.not_true, Bool.not_false, Bool.not_eq_true, Bool.not_eq_false, Int.not_lt, Int.not_le, Bool.and_eq_true, Bool.or_eq_true, Bool.and_eq_false_iff, Bool.or_eq_false_iff] at hc29
        refine r_exit rfl ?_
        refine r_seq ?_
        refine r_region' ?_
        refine l_q (q_load_agg (n := 4) Try.isAgg41 Try.sizeOf41 rfl ((hb3.cells' (cs' := [_, _, _, _]) 0 4 rfl)) rfl rfl) ?_
        refine l_o (o_store (vs := [vint S, vint W, .slice oa ((ks.take k).length) oc, .slice a23_0 ((ds).length) c23_0]) (cs' := [vint S, vint W, .slice oa ((ks.take k).length) oc, .slice a23_0 ((ds).length) c23_0]) Try.sizeOf41 rfl rfl rfl rfl hb2 (Nat.le_of_ble_eq_true rfl) rfl rfl ?_)
        intro w39 hz39 hb2 hG39
        replace hB := below_upd hB hG39 hsz (by omega)
        replace hsz : w.heap.size ≤ w39.heap.size := by rw [hz39]; exact hsz
        replace hb1 := hb1.upd hG39 (by omega)
        replace ho23_0 := own_updne ho23_0 hG39 (by first | assumption | (intro g hg; have := (ho23_0.lt g hg).1; omega))
        replace hb3 := hb3.upd hG39 (by omega)
        replace hoK := own_updne hoK hG39 (by first | assumption | (intro g hg; have := (hoK.lt g hg).1; omega))
        refine l_nil ?_
        refine r_forget [(2, .pointer _)] ⟨rfl, trivial⟩ (fun e40 => ?_)
        refine r_ret_ (vs := [.agg _]) rfl Try.func11 rfl (.nil _) ⟨⟨_, _, rfl, run_loadVarA Try.isAgg41 Try.sizeOf41 (hb2.cells' (cs' := [_, _, _, _]) 0 4 rfl) rfl⟩, trivial⟩ ?_
        have hkk : k = ks.length := by omega
        subst hkk
        rw [List.take_length] at hoK
        exact ⟨oa, oc, a23_0, c23_0, by rw [List.take_length]; rfl, Row.of_owns hoK, (Row.of_owns ho23_0), Ext.of_below hB⟩
end Go.Proofs.Ytfbjllabgkabkaa
