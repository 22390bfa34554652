/- Contracts. -/
import Derived.Test.YtbikicakdkbcgacGreatH6
set_option linter.unusedVariables false
set_option linter.unusedSimpArgs false
namespace Go.Proofs.YtbikicakdkbcgacGreat
open Go Go.RowKit Go.Gv Go.Fl

/-! ### Bits, and a land with the stations that can be reached -/
section
variable {P : Program} {ops : Array Oper} {e : Env} {w : World} {d : Option Nat} {ty : TypeId} {pos : String} {af : Array Edge} {g : Option (Nat × Bool)}
theorem wrap64 {n : Nat} (h : n < 18446744073709551616) : IntKind.u64.wrap (n : Int) = (n : Int) := by
  simp [IntKind.wrap, IntKind.bits, IntKind.signed]; omega
abbrev u64v (n : Nat) : Value := .int .u64 (n : Int)
theorem q_shr64 {t yt : TypeId} {x y : Operand} {kd : IntKind} {a b : Nat} (hx : ev e x = u64v a) (hy : ev e y = .int kd (b : Int)) (hr : b ≤ 63)
    (hw : wantedE ops e ⟨d, .binOp .shr t x y yt, ty, pos, af, g⟩ = true) : QuietAt P ops e w ⟨d, .binOp .shr t x y yt, ty, pos, af, g⟩ (u64v (a >>> b)) :=
  .inl ⟨hw, rfl, (by
    have h1 : ¬ (b : Int) < 0 := by omega
    have h2 : min ((b : Int)).toNat IntKind.u64.bits = b := by have : IntKind.u64.bits = 64 := rfl; omega
    have h3 : ((a : Int)) / 2 ^ b = ((a >>> b : Nat) : Int) := by
      rw [Nat.shiftRight_eq_div_pow]; norm_cast
    have h4 : ((a : Int)).fdiv (2 ^ b) = (a : Int) / 2 ^ b := Int.fdiv_eq_ediv_of_nonneg _ (Int.le_of_lt (Int.pow_pos (by decide)))
    generalize a >>> b = r at h3 ⊢
    simp [execOp, hx, hy, eqGuard, binOp, Op.shift, h1, h2, h3, h4, u64v])⟩
theorem q_shl64 {t yt : TypeId} {x y : Operand} {kd : IntKind} {b : Nat} (hx : ev e x = .int .u64 1) (hy : ev e y = .int kd (b : Int)) (hr : b ≤ 62)
    (hw : wantedE ops e ⟨d, .binOp .shl t x y yt, ty, pos, af, g⟩ = true) : QuietAt P ops e w ⟨d, .binOp .shl t x y yt, ty, pos, af, g⟩ (u64v (1 <<< b)) :=
  .inl ⟨hw, rfl, (by
    have h1 : ¬ (b : Int) < 0 := by omega
    have h2 : min ((b : Int)).toNat IntKind.u64.bits = b := by have : IntKind.u64.bits = 64 := rfl; omega
    have h4 : 2 ^ b < 18446744073709551616 := Nat.lt_of_le_of_lt (Nat.pow_le_pow_right (by decide) hr) (by decide)
    have h3 : IntKind.u64.wrap (1 * 2 ^ b) = ((1 <<< b : Nat) : Int) := by
      rw [Int.one_mul, Nat.shiftLeft_eq, Nat.one_mul, ← wrap64 h4]; norm_cast
    rw [Int.one_mul] at h3
    simp [execOp, hx, hy, eqGuard, binOp, Op.shift, h1, h2, h3, u64v])⟩
theorem q_or64 {t yt : TypeId} {x y : Operand} {a b : Nat} (hx : ev e x = u64v a) (hy : ev e y = u64v b) (ha : a < 2 ^ 62) (hb : b < 2 ^ 62)
    (hw : wantedE ops e ⟨d, .binOp .or t x y yt, ty, pos, af, g⟩ = true) : QuietAt P ops e w ⟨d, .binOp .or t x y yt, ty, pos, af, g⟩ (u64v (a ||| b)) :=
  .inl ⟨hw, rfl, (by
    have h1 : a ||| b < 2 ^ 62 := Nat.or_lt_two_pow ha hb
    have h2 : (BitVec.ofInt 64 (a : Int) ||| BitVec.ofInt 64 (b : Int)).toNat = a ||| b := by
      rw [BitVec.toNat_or, BitVec.ofInt_natCast, BitVec.ofInt_natCast, BitVec.toNat_ofNat, BitVec.toNat_ofNat, Nat.mod_eq_of_lt (by omega), Nat.mod_eq_of_lt (by omega)]
    have h3 : IntKind.u64.wrap ((a ||| b : Nat) : Int) = ((a ||| b : Nat) : Int) := wrap64 (by omega)
    have h4 : (Op.intBits .or .u64 (a : Int) (b : Int)).run P w = .ok (u64v (a ||| b)) w := by
      show (pure (.int .u64 (IntKind.u64.wrap ((BitVec.ofInt 64 (a : Int) ||| BitVec.ofInt 64 (b : Int)).toNat : Int))) : Sem Value).run P w = _
      rw [h2, h3]; rfl
    simp [execOp, hx, hy, eqGuard, binOp, h4, u64v])⟩
theorem q_and64 {t yt : TypeId} {x y : Operand} {a : Nat} (hx : ev e x = u64v a) (hy : ev e y = .int .u64 1) (ha : a < 2 ^ 62)
    (hw : wantedE ops e ⟨d, .binOp .and t x y yt, ty, pos, af, g⟩ = true) : QuietAt P ops e w ⟨d, .binOp .and t x y yt, ty, pos, af, g⟩ (u64v (a % 2)) :=
  .inl ⟨hw, rfl, (by
    have h2 : (BitVec.ofInt 64 (a : Int) &&& BitVec.ofInt 64 1).toNat = a % 2 := by
      rw [BitVec.toNat_and, BitVec.ofInt_natCast, show BitVec.ofInt 64 1 = 1#64 from rfl, BitVec.toNat_ofNat, BitVec.toNat_ofNat, Nat.mod_eq_of_lt (show a < 2 ^ 64 by omega), show 1 % 2 ^ 64 = 1 from by decide, Nat.and_one_is_mod]
    have h3 : IntKind.u64.wrap ((a % 2 : Nat) : Int) = ((a % 2 : Nat) : Int) := wrap64 (by omega)
    have h4 : (Op.intBits .and .u64 (a : Int) 1).run P w = .ok (u64v (a % 2)) w := by
      show (pure (.int .u64 (IntKind.u64.wrap ((BitVec.ofInt 64 (a : Int) &&& BitVec.ofInt 64 1).toNat : Int))) : Sem Value).run P w = _
      rw [h2, h3]; rfl
    simp [execOp, hx, hy, eqGuard, binOp, h4, u64v])⟩
end
def lorL (xs : List Int) : Nat := xs.foldl (fun f x => f ||| 1 <<< x.toNat) 0
theorem lorL_snoc {xs : List Int} {x : Int} : lorL (xs ++ [x]) = lorL xs ||| 1 <<< x.toNat := by unfold lorL; rw [List.foldl_append]; rfl
theorem lor_bit (t : Nat) : ∀ (xs : List Int) (f : Nat), (xs.foldl (fun f x => f ||| 1 <<< x.toNat) f).testBit t = (f.testBit t || xs.any (fun x => decide (x.toNat = t)))
  | [], f => by simp
  | x :: l, f => by
    rw [List.foldl_cons, lor_bit t l, Nat.testBit_or, List.any_cons, Bool.or_assoc]
    congr 2
    rw [Nat.one_shiftLeft, Nat.testBit_two_pow]
theorem lorL_lt {n : Nat} : ∀ (xs : List Int), (∀ x ∈ xs, 0 ≤ x ∧ x < (n : Int)) → ∀ f, f < 2 ^ n → (xs.foldl (fun f x => f ||| 1 <<< x.toNat) f) < 2 ^ n
  | [], _, f, hf => hf
  | x :: l, h, f, hf => by
    rw [List.foldl_cons]
    have hx := h x (by simp)
    refine lorL_lt l (fun y hy => h y (by simp [hy])) _ (Nat.or_lt_two_pow hf ?_)
    rw [Nat.one_shiftLeft]
    exact Nat.pow_lt_pow_right (by decide) (by omega)
def flF (sl : List S4) (rl : List WL) (kl : List KV) (ul : List S3) (s ki h : Nat) : Nat := lorL (hrsF (fun q => canF sl rl kl ul s q ki h) sl.length)
theorem hrs_rng {p : Nat → Bool} {n : Nat} : ∀ x ∈ hrsF p n, 0 ≤ x ∧ x < (n : Int) := fun x hx => by
  obtain ⟨q, rfl, h1, _⟩ := hrs_mem.1 hx
  omega
section
variable {sl : List S4} {rl : List WL} {kl : List KV} {ul : List S3} {s ki h t : Nat}
theorem flF_lt (h6 : sl.length ≤ 6) : flF sl rl kl ul s ki h < 64 := by
  have := lorL_lt (n := sl.length) (hrsF (fun q => canF sl rl kl ul s q ki h) sl.length) hrs_rng 0 (Nat.pow_pos (by decide))
  have h2 : 2 ^ sl.length ≤ 2 ^ 6 := Nat.pow_le_pow_right (by decide) h6
  unfold flF lorL
  omega
theorem flF_bit : (flF sl rl kl ul s ki h).testBit t = (decide (t < sl.length) && canF sl rl kl ul s t ki h) := by
  unfold flF lorL
  rw [lor_bit, Nat.zero_testBit, Bool.false_or, Bool.eq_iff_iff, List.any_eq_true, Bool.and_eq_true, decide_eq_true_eq]
  constructor
  · rintro ⟨x, hx, h1⟩
    obtain ⟨q, rfl, h2, h3⟩ := hrs_mem.1 hx
    have h4 := of_decide_eq_true h1
    obtain rfl : q = t := by omega
    exact ⟨h2, h3⟩
  · rintro ⟨h1, h2⟩
    exact ⟨(t : Int), hrs_mem.2 ⟨t, rfl, h1, h2⟩, decide_eq_true (by omega)⟩
end
abbrev mapV (m : Nat) : Value := .map (some m)
structure RwH (w : World) (sa : Option Addr) (sc : Nat) (sl : List S4) (ra : Option Addr) (rc : Nat) (rl : List WL) (ka : Option Addr) (kc : Nat) (kl : List KV) (ua : Option Addr) (uc : Nat) (ul : List S3) (wb : Nat) (ga : Option Addr) (gc : Nat) (ms : List Nat) : Prop where
  blk : Blk w wb [.slice sa sl.length sc, .slice ra rl.length rc, .slice ka kl.length kc, .slice ua ul.length uc, .slice ga ms.length gc]
  lan : LandAt w sa sc sl ra rc rl ka kc kl ua uc ul
  rg : Row w ga ms.length gc 1 (ms.map mapV)
section
variable {w w' : World} {sa ra ka ua ga : Option Addr} {sc rc kc uc gc wb m : Nat} {sl : List S4} {rl : List WL} {kl : List KV} {ul : List S3} {ms : List Nat}
theorem RwH.ext (h : RwH w sa sc sl ra rc rl ka kc kl ua uc ul wb ga gc ms) (hE : Ext w w') : RwH w' sa sc sl ra rc rl ka kc kl ua uc ul wb ga gc ms := ⟨h.blk.ext hE, h.lan.ext hE, h.rg.ext hE⟩
theorem RwH.below (h : RwH w sa sc sl ra rc rl ka kc kl ua uc ul wb ga gc ms) (hB : Below w.heap.size w w') : RwH w' sa sc sl ra rc rl ka kc kl ua uc ul wb ga gc ms := h.ext (.of_below hB)
theorem RwH.gm {es : List MapEntry} {clock : Nat} (h : RwH w sa sc sl ra rc rl ka kc kl ua uc ul wb ga gc ms) (hM : MapAt w m es clock) (hg : w.grownBy w' (some m)) : RwH w' sa sc sl ra rc rl ka kc kl ua uc ul wb ga gc ms := ⟨h.blk.gm hM hg, h.lan.gm hM hg, h.rg.gm hM hg⟩
end
def MemoF (sl : List S4) (rl : List WL) (kl : List KV) (ul : List S3) (ki : Nat) (es : List MapEntry) : Prop := ∀ en ∈ es, ∃ s h : Nat, en.key = .agg ⟨[vint (s : Int), vint (h : Int)]⟩ ∧ en.val = u64v (flF sl rl kl ul s ki h)
theorem rlTy : PairTy Tryz.prog 115 3 := ⟨⟨_, _, Tryz.underlying115, ⟨by decide, rfl, rfl⟩, ⟨by decide, rfl, rfl⟩⟩, ⟨_, Tryz.underlying3⟩, Tryz.isAgg3, Tryz.isAgg115, Tryz.sizeOf115, by kernel_rfl, by kernel_rfl, by kernel_rfl⟩
section
variable {sl : List S4} {rl : List WL} {kl : List KV} {ul : List S3} {ki s h : Nat} {es es' : List MapEntry}
theorem memoF_nil : MemoF sl rl kl ul ki [] := fun _ h => by simp at h
theorem asks_rl (hm : MemoF sl rl kl ul ki es) (a b : Int) : Asks Tryz.prog 115 (.agg ⟨[vint a, vint b]⟩) es := fun en hen => by
  obtain ⟨c, d, h1, _⟩ := hm en hen
  refine ⟨decide (a = (c : Int)) && decide (b = (d : Int)), fun w => by rw [h1]; exact rlTy.equal (d := 9998) _ _ _ _ w, ?_⟩
  rw [h1, Bool.and_eq_true, decide_eq_true_eq, decide_eq_true_eq]
  exact ⟨fun h => by rw [h.1, h.2], hkey_inj⟩
theorem rl_get {v : Value} {ok : Bool} (hm : MemoF sl rl kl ul ki es) (h1 : ok = true → ∃ en ∈ es, en.key = .agg ⟨[vint (s : Int), vint (h : Int)]⟩ ∧ en.val = v) (h2 : ok = false → v = .int .u64 0 ∧ ∀ en ∈ es, en.key ≠ .agg ⟨[vint (s : Int), vint (h : Int)]⟩) :
    ∃ n : Nat, v = u64v n ∧ (ok = true → n = flF sl rl kl ul s ki h) ∧ (ok = false → n = 0) := by
  cases ok with
  | true =>
    obtain ⟨en, hen, hk, rfl⟩ := h1 rfl
    obtain ⟨c, d, h3, h4⟩ := hm en hen
    obtain ⟨h7, h8⟩ := hkey_inj (h3.symm.trans hk)
    obtain rfl : c = s := by omega
    obtain rfl : d = h := by omega
    exact ⟨_, h4, (fun _ => rfl), fun h => by cases h⟩
  | false => exact ⟨0, (h2 rfl).1, (fun h => by cases h), fun _ => rfl⟩
theorem rl_put {v : Value} (hm : MemoF sl rl kl ul ki es) (hin : ∀ en ∈ es', (en ∈ es) ∨ (en.key = .agg ⟨[vint (s : Int), vint (h : Int)]⟩ ∧ en.val = v)) (hv : v = u64v (flF sl rl kl ul s ki h)) : MemoF sl rl kl ul ki es' := fun en hen => by
  rcases hin en hen with h1 | ⟨h1, h2⟩
  · exact hm en h1
  · exact ⟨s, h, h1, h2.trans hv⟩
end
theorem bit_shr {F t : Nat} : (F >>> t) % 2 = 1 ↔ F.testBit t = true := by
  rw [Nat.testBit_eq_decide_div_mod_eq, decide_eq_true_eq, Nat.shiftRight_eq_div_pow]
theorem shr_zero {F t : Nat} (hF : F < 64) (h : 6 ≤ t) : F >>> t = 0 := by
  rw [Nat.shiftRight_eq_div_pow]
  refine Nat.div_eq_of_lt (Nat.lt_of_lt_of_le hF ?_)
  exact Nat.le_trans (by decide) (Nat.pow_le_pow_right (by decide) h : 2 ^ 6 ≤ 2 ^ t)
theorem shr_bit {F t b : Nat} (h : F >>> t = 0) (hb : t ≤ b) : F.testBit b = false := by
  obtain ⟨k, rfl⟩ : ∃ k, b = t + k := ⟨b - t, by omega⟩
  rw [← Nat.testBit_shiftRight, h, Nat.zero_testBit]
theorem up7 {J : Nat → World → Prop} {F t : Nat} {w' : World} (hs : ∀ t w1, t ≤ 6 → J t w1 → F.testBit t = false → J (t + 1) w1) (h0 : F >>> t = 0) (ht : t ≤ 6) (hJ : J t w') : J 7 w' := by
  have : ∀ d, t + d ≤ 7 → J (t + d) w' := fun d => by
    induction d with
    | zero => intro _; exact hJ
    | succ d ih => intro hd; exact hs (t + d) w' (by omega) (ih (by omega)) (shr_bit h0 (by omega))
  have h := this (7 - t) (by omega)
  rwa [show t + (7 - t) = 7 from by omega] at h

theorem one_shl_lt {n : Nat} (h : n < 6) : 1 <<< n < 2 ^ 62 := by
  rw [Nat.one_shiftLeft]; exact Nat.pow_lt_pow_right (by decide) (by omega)
theorem lor_take_lt {p : Nat → Bool} {n q : Nat} (h : n ≤ 6) : lorL ((hrsF p n).take q) < 2 ^ 62 :=
  Nat.lt_of_lt_of_le (lorL_lt (n := n) _ (fun x hx => hrs_rng x (List.mem_of_mem_take hx)) 0 (Nat.pow_pos (by decide))) (Nat.pow_le_pow_right (by decide) (by omega))
theorem lor_next {xs : List Int} {q : Nat} (h : q < xs.length) : lorL (xs.take (q + 1)) = lorL (xs.take q) ||| 1 <<< (xs.getD q 0).toNat := by
  rw [List.take_add_one, List.getElem?_eq_getElem h, List.getD_eq_getElem?_getD, List.getElem?_eq_getElem h]
  exact lorL_snoc

theorem fld106_0 (w : World) (b o : Nat) : (Instr.fieldAt 106 (ptr b o) 0).run Tryz.prog w = .ok (ptr b (o + 0)) w := by
  simp [Instr.fieldAt, run_underlying Tryz.underlying106, fieldPlace, Instr.sureAddr, Tryz.sizeOf52, Addr.add_lit]
theorem fld106_1 (w : World) (b o : Nat) : (Instr.fieldAt 106 (ptr b o) 1).run Tryz.prog w = .ok (ptr b (o + 4)) w := by
  simp [Instr.fieldAt, run_underlying Tryz.underlying106, fieldPlace, Instr.sureAddr, Tryz.sizeOf104, Addr.add_lit]
theorem fld115_0 (w : World) (b o : Nat) : (Instr.fieldAt 115 (ptr b o) 0).run Tryz.prog w = .ok (ptr b (o + 0)) w := by
  simp [Instr.fieldAt, run_underlying Tryz.underlying115, fieldPlace, Instr.sureAddr, Tryz.sizeOf3, Addr.add_lit]
theorem fld115_1 (w : World) (b o : Nat) : (Instr.fieldAt 115 (ptr b o) 1).run Tryz.prog w = .ok (ptr b (o + 1)) w := by
  simp [Instr.fieldAt, run_underlying Tryz.underlying115, fieldPlace, Instr.sureAddr, Tryz.sizeOf3, Addr.add_lit]
theorem all1_rint_ret (b : Nat) (g : FuncId) (fst cap cs : List Value) (p : Nat → Bool) (i : Nat) (v : Value) (w : World) (hb : Blk w b [.func (.func g) ⟨fst⟩ ⟨cap⟩]) (hp : PredI Tryz.prog w g fst cap cs p) (hv : cs[i]? = some v) : Ret Tryz.prog 73 [v, ptr b 0] w (fun v w' => v = .bool (!p i) ∧ Ext w w') := by
 have hbl := hb.lt
 have hB := Below.refl w.heap.size w
 have hsz : w.heap.size ≤ w.heap.size := Nat.le_refl _
 refine ret_of_runs (args := [_, _]) Tryz.func73 rfl (Nat.le_of_ble_eq_true rfl) (by kernel_rfl) (r_seq (r_region' (l_q (qab rfl rfl) (l_nil (r_seq (r_region' (l_q (q_load Tryz.isAgg82 rfl (((hb.below hB (by omega)).has (o := 0) rfl)) rfl) (l_q (q_move (v := v) rfl rfl) (l_o (o_callv (f := g) (fst := fst) (cap := cap) rfl hp.1 rfl (hp.2 _ (Ext.of_below hB) i _ hv) rfl ?_))))))))))
 rintro _ w1 ⟨rfl, hE1⟩
 replace hB := below_ext hB hE1 hsz
 replace hsz := Nat.le_trans hsz hE1.size
 refine l_q (q_not rfl rfl) (l_q (qab rfl rfl) (l_nil (r_ret_ (vs := [.bool _]) rfl Tryz.func73 rfl (.nil _) ⟨rfl, trivial⟩ ?_)))
 exact ⟨rfl, Ext.of_below hB⟩
theorem all1_rint_pred {w : World} {b : Nat} {g : FuncId} {fst cap cs : List Value} {p : Nat → Bool} (hb : Blk w b [.func (.func g) ⟨fst⟩ ⟨cap⟩]) (hp : PredI Tryz.prog w g fst cap cs p) :
    PredI Tryz.prog w 73 [] [ptr b 0] cs (fun i => !p i) :=
  ⟨Tryz.call73, fun w' hw i v hv => all1_rint_ret _ _ _ _ _ _ _ _ _ (hb.ext hw) (hp.ext hw) hv⟩
theorem all_rint_ret (a : Option Addr) (n c : Nat) (cs : List Value) (g : FuncId) (fst cap : List Value) (p : Nat → Bool) (w : World) (hrow : Row w a n c 1 cs) (hp : PredI Tryz.prog w g fst cap cs p) (hn : n ≤ 9223372036854775806) : Ret Tryz.prog 38 [.slice a n c, .func (.func g) ⟨fst⟩ ⟨cap⟩] w (fun v w' => v = .bool ((List.range n).all p) ∧ Ext w w') := by
 have hB := Below.refl w.heap.size w
 have hsz : w.heap.size ≤ w.heap.size := Nat.le_refl _
 refine ret_of_runs (args := [_, _]) Tryz.func38 rfl (Nat.le_of_ble_eq_true rfl) (by kernel_rfl) (r_seq (r_region' (l_o (o_box rfl rfl rfl ?_))))
 intro b1 w1 hzl1 hzr1 _ hb1 hE1
 have hbs_b1 : w.heap.size ≤ b1 := Nat.le_trans hsz hzl1
 replace hB := below_ext hB hE1 hsz
 replace hsz := Nat.le_trans hsz hE1.size
 refine l_q (qab rfl rfl) (l_nil (r_seq (r_region' (l_q (qms rfl rfl) (l_q (q_makeFunc (v := .func _ ⟨[]⟩ ⟨[_]⟩) rfl rfl) (l_o (o_call Tryz.call72 rfl (containsFunc_int_ret _ _ _ _ 73 [] [ptr b1 0] (fun i => !p i) _ (hrow.below hB) (all1_rint_pred hb1 (hp.ext (Ext.of_below hB))) hn) rfl ?_)))))))
 rintro _ w2 ⟨rfl, hE2⟩
 replace hB := below_ext hB hE2 hsz
 replace hsz := Nat.le_trans hsz hE2.size
 refine l_q (q_not rfl rfl) (l_q (qab rfl rfl) (l_nil (r_ret_ (vs := [.bool _]) rfl Tryz.func38 rfl (.nil _) ⟨rfl, trivial⟩ ?_)))
 exact ⟨vbool_eq (by rw [List.all_eq_not_any_not]), Ext.of_below hB⟩
theorem all_rint_of {α : Type} {f : α → Value} {xs : List α} (d : α) {q : α → Bool} {w : World} {a : Option Addr} {c : Nat} {g : FuncId} {fst cap : List Value} (hin : ∀ args w, (callFunc g args).run Tryz.prog w = .ok (.enter g args) w)
    (hrow : Row w a xs.length c 1 (xs.map f)) (h : ∀ w', Ext w w' → ∀ x ∈ xs, Ret Tryz.prog g (fst ++ [f x] ++ cap) w' (fun r w'' => r = .bool (q x) ∧ Ext w' w'')) (hn : xs.length ≤ 9223372036854775806) :
    Ret Tryz.prog 38 [.slice a xs.length c, .func (.func g) ⟨fst⟩ ⟨cap⟩] w (fun v w' => v = .bool (xs.all q) ∧ Ext w w') :=
  (all_rint_ret _ _ _ _ _ _ _ _ _ hrow (predI_of d hin h) hn).mono (fun v w' hx => ⟨by rw [hx.1, range_all xs d q], hx.2⟩)
theorem rsmall_ret (xa : Option Addr) (xc : Nat) (xs : List Int) (w : World) (hx : Row w xa xs.length xc 1 (xs.map vint)) (hxn : xs.length ≤ 2097152) (h0 : 0 < xs.length) : Ret Tryz.prog 41 [.slice xa xs.length xc] w (fun v w' => v = vint (minOf xs) ∧ Ext w w') := by
 have hB := Below.refl w.heap.size w
 have hsz : w.heap.size ≤ w.heap.size := Nat.le_refl _
 refine ret_of_runs (args := [_]) Tryz.func41 rfl (Nat.le_of_ble_eq_true rfl) (by kernel_rfl) (r_seq (r_region' (l_q (qai rfl rfl) (l_nil (r_seq (r_region' (l_q (qms rfl rfl) (l_o (o_call Tryz.call76 rfl (min_ret _ _ xs _ (hx.below hB) (by first | omega | simp) (by first | omega | simp)) rfl ?_)))))))))
 rintro _ w1 ⟨rfl, hE1⟩
 replace hB := below_ext hB hE1 hsz
 replace hsz := Nat.le_trans hsz hE1.size
 refine l_q (qai rfl rfl) (l_nil (r_ret_ (vs := [.int _ _]) rfl Tryz.func41 rfl (.nil _) ⟨rfl, trivial⟩ ?_))
 exact ⟨rfl, Ext.of_below hB⟩
theorem rend_ret (sa : Option Addr) (sc : Nat) (sl : List S4) (ra : Option Addr) (rc : Nat) (rl : List WL) (ka : Option Addr) (kc : Nat) (kl : List KV) (ua : Option Addr) (uc : Nat) (ul : List S3) (wb : Nat) (ga : Option Addr) (gc : Nat) (ms : List Nat) (w : World) (hk : RwH w sa sc sl ra rc rl ka kc kl ua uc ul wb ga gc ms) : Ret Tryz.prog 28 [ptr wb 0] w (fun v w' => v = vint (ul.length : Int) ∧ w = w') := by
 have hwbl := hk.blk.lt
 have hB := Below.refl w.heap.size w
 have hsz : w.heap.size ≤ w.heap.size := Nat.le_refl _
 refine ret_of_runs (args := [_]) Tryz.func28 rfl (Nat.le_of_ble_eq_true rfl) (by kernel_rfl) (r_seq (r_region' (l_q (qai rfl rfl) (l_nil (r_seq (r_region' (l_q (q_move (v := .pointer _) rfl rfl) (l_q (q_nilCheck rfl rfl) (l_q (q_fieldAddr (o' := 0) rfl fld106_0 rfl) (l_q (q_fieldAddr (o' := 3) rfl fld52_3 rfl) (l_q (q_load Tryz.isAgg50 rfl (((hk.blk.below hB (by omega)).has (o := 3) rfl)) rfl) (l_q (q_len rfl Tryz.underlying50 rfl rfl) (l_q (qai rfl rfl) (l_nil (r_ret_ (vs := [.int _ _]) rfl Tryz.func28 rfl (.nil _) ⟨rfl, trivial⟩ ?_)))))))))))))))
 exact ⟨rfl, rfl⟩
theorem rstation_ret (sa : Option Addr) (sc : Nat) (sl : List S4) (ra : Option Addr) (rc : Nat) (rl : List WL) (ka : Option Addr) (kc : Nat) (kl : List KV) (ua : Option Addr) (uc : Nat) (ul : List S3) (wb : Nat) (ga : Option Addr) (gc : Nat) (ms : List Nat) (n : Int) (w : World) (hk : RwH w sa sc sl ra rc rl ka kc kl ua uc ul wb ga gc ms) (hs6 : sl.length ≤ 6) : Ret Tryz.prog 35 [ptr wb 0, vint n] w (fun v w' => v = .bool (decide (0 ≤ n ∧ n ≤ (sl.length : Int) - 1)) ∧ w = w') := by
 have hwbl := hk.blk.lt
 have hB := Below.refl w.heap.size w
 have hsz : w.heap.size ≤ w.heap.size := Nat.le_refl _
 refine ret_of_runs (args := [_, _]) Tryz.func35 rfl (Nat.le_of_ble_eq_true rfl) (by kernel_rfl) (r_seq (r_region' (l_q (qab rfl rfl) (l_nil (r_seq (r_region' (l_q (qmi rfl rfl) (l_q (q_move (v := .pointer _) rfl rfl) (l_q (q_nilCheck rfl rfl) (l_q (q_fieldAddr (o' := 0) rfl fld106_0 rfl) (l_q (q_fieldAddr (o' := 0) rfl fld52_0 rfl) (l_q (q_load Tryz.isAgg47 rfl (((hk.blk.below hB (by omega)).has (o := 0) rfl)) rfl) (l_q (q_len rfl Tryz.underlying47 rfl rfl) (l_q (q_sub rfl rfl (by omega) rfl) (l_o (o_call Tryz.call37 rfl (rlwithin_ret _ _ _ _) rfl ?_))))))))))))))))
 rintro _ w1 ⟨rfl, rfl⟩
 refine l_q (qab rfl rfl) (l_nil (r_forget [(4, .bool _)] ⟨rfl, trivial⟩ (fun e2 => (r_ret_ (vs := [.bool _]) rfl Tryz.func35 rfl (.nil _) ⟨rfl, trivial⟩ ?_))))
 exact ⟨vbool_eq (by rw [Bool.eq_iff_iff]; simp), rfl⟩
theorem ropen1_ret (sa : Option Addr) (sc : Nat) (sl : List S4) (ra : Option Addr) (rc : Nat) (rl : List WL) (ka : Option Addr) (kc : Nat) (kl : List KV) (ua : Option Addr) (uc : Nat) (ul : List S3) (wb : Nat) (ga : Option Addr) (gc : Nat) (ms : List Nat) (n : Int) (b : Nat) (w : World) (hk : RwH w sa sc sl ra rc rl ka kc kl ua uc ul wb ga gc ms) (hb : Blk w b [ptr wb 0]) : Ret Tryz.prog 36 [vint n, ptr b 0] w (fun v w' => v = .bool (decide (0 ≤ n ∧ n ≤ (ul.length : Int))) ∧ w = w') := by
 have hwbl := hk.blk.lt
 have hbl := hb.lt
 have hB := Below.refl w.heap.size w
 have hsz : w.heap.size ≤ w.heap.size := Nat.le_refl _
 refine ret_of_runs (args := [_, _]) Tryz.func36 rfl (Nat.le_of_ble_eq_true rfl) (by kernel_rfl) (r_seq (r_region' (l_q (qab rfl rfl) (l_nil (r_seq (r_region' (l_q (qmi rfl rfl) (l_q (q_load Tryz.isAgg87 rfl (((hb.below hB (by omega)).has (o := 0) rfl)) rfl) (l_o (o_call Tryz.call28 rfl (rend_ret sa sc sl ra rc rl ka kc kl ua uc ul wb ga gc ms _ hk) rfl ?_))))))))))
 rintro _ w1 ⟨rfl, rfl⟩
 refine l_o (o_call Tryz.call37 rfl (rlwithin_ret _ _ _ _) rfl ?_)
 rintro _ w2 ⟨rfl, rfl⟩
 refine l_q (qab rfl rfl) (l_nil (r_ret_ (vs := [.bool _]) rfl Tryz.func36 rfl (.nil _) ⟨rfl, trivial⟩ ?_))
 exact ⟨vbool_eq (by rw [Bool.eq_iff_iff]; simp), rfl⟩
theorem from_ret (sa : Option Addr) (sc : Nat) (sl : List S4) (ra : Option Addr) (rc : Nat) (rl : List WL) (ka : Option Addr) (kc : Nat) (kl : List KV) (ua : Option Addr) (uc : Nat) (ul : List S3) (wb : Nat) (ga : Option Addr) (gc : Nat) (ms : List Nat) (m clock : Nat) (es : List MapEntry) (s ki h : Nat) (w : World) (hok : OkL sl rl kl ul) (hk : RwH w sa sc sl ra rc rl ka kc kl ua uc ul wb ga gc ms) (hM : MapAt w m es clock) (hMemo : MemoF sl rl kl ul ki es) (hgs : s < sl.length) (hgk : ki < kl.length) (hgh : h < ul.length) (hml : ms.length = kl.length) (hm : ms.getD ki 0 = m) : Ret Tryz.prog 39 [ptr wb 0, vint (ki : Int), .agg ⟨[vint (s : Int), vint (h : Int)]⟩] w (fun v w' => v = u64v (flF sl rl kl ul s ki h) ∧ ∃ es2 ck2, MapAt w' m es2 ck2 ∧ MemoF sl rl kl ul ki es2 ∧ w.grownBy w' (some m)) := by
 have hs6 := hok.s6
 have hr6 := hok.r6
 have hk4 := hok.k4
 have hu12 := hok.u12
 have hs0 := hok.s0
 have hk0 := hok.k0
 have hu0 := hok.u0
 have hwbl := hk.blk.lt
 have hM0 := hM
 have hG0 := gm_refl m w
 have hmN := hM.lt
 have hRl := hrs_len (p := (fun q => canF sl rl kl ul s q ki h)) (n := sl.length)
 have hsz : w.heap.size ≤ w.heap.size := Nat.le_refl _
 refine ret_of_runs (args := [_, _, _]) Tryz.func39 rfl (Nat.le_of_ble_eq_true rfl) (by kernel_rfl) (r_seq (r_region' (l_o (o_box rfl rfl rfl ?_))))
 intro b1 w1 hzl1 hzr1 _ hb1 hE1
 have hne_wb_b1 : wb ≠ b1 := by have := hk.blk.lt; omega
 have hbs_b1 : w.heap.size ≤ b1 := Nat.le_trans hsz hzl1
 replace hM := hM.keep (hE1.block m hM.lt (by simp))
 replace hG0 := grown_trans hG0 (gm_ext hE1)
 replace hsz := Nat.le_trans hsz hE1.size
 refine l_q (qai rfl rfl) (l_nil (r_seq (r_draw ext_refl' ext_trans' [0, 1, 2, 3, 4, 5, 6, 7, 8, 9, 10, 11, 12, 13] [] 20 (by kernel_rfl) (by kernel_rfl) ?_)))
 intro w2 _ hE2
 replace hM := hM.keep (hE2.block m hM.lt (by simp))
 replace hG0 := grown_trans hG0 (gm_ext hE2)
 replace hb1 := hb1.ext hE2
 replace hsz := Nat.le_trans hsz hE2.size
 refine m_q rfl rfl (fun w' hC' => q_move (v := .pointer _) rfl rfl) (m_q rfl rfl (fun w' hC' => q_nilCheck rfl rfl) (m_q rfl rfl (fun w' hC' => q_fieldAddr (o' := 4) rfl fld106_1 rfl) (m_q rfl rfl (fun w' hC' => q_load Tryz.isAgg104 rfl ((((hk.blk.gm hM0 hG0).has (o := 4) rfl).ext hC')) rfl) (m_q rfl rfl (fun w' hC' => qmi rfl rfl) ?_))))
 obtain ⟨b3, o3, ha3, hh3⟩ := (hk.rg.gm hM0 hG0).at1 ki (ms.getD ki 0) (getD_some (by omega))
 rw [hm] at hh3
 refine m_q rfl rfl (fun w' hC' => q_indexAddr1 Tryz.underlying104 Tryz.sizeOf108 rfl ha3 rfl (by omega) rfl) (m_q rfl rfl (fun w' hC' => q_load Tryz.isAgg108 rfl ((hh3.ext hC')) rfl) (m_q rfl rfl (fun w' hC' => q_load_agg (n := 2) Tryz.isAgg115 Tryz.sizeOf115 rfl (((hb1.cells' (cs' := [_, _]) 0 2 rfl).ext hC')) rfl rfl) (m_look rfl rfl Tryz.underlying108 Tryz.underlying115 Tryz.zeroValue112 rfl rfl (fun w2 hC2 => hM.ext hC2) (fun em w => rlTy.key (n := 9998) _ _ w) (asks_rl hMemo _ _) rfl ?_)))
 intro v4 ok4 hA4 hC4
 obtain ⟨fn, rfl, hfy, hfn⟩ := rl_get hMemo hA4 hC4
 refine m_q rfl rfl (fun w' hC' => q_move (v := .tuple _) rfl rfl) (m_q rfl rfl (fun w' hC' => q_extract (vs := [_, _]) (v := .int _ _) rfl rfl rfl) (m_q rfl rfl (fun w' hC' => q_extract (vs := [_, _]) (v := .bool _) rfl rfl rfl) (m_q rfl rfl (fun w' hC' => qai rfl rfl) (m_q rfl rfl (fun w' hC' => qab rfl rfl) (m_nil (r_forget [(0, .pointer _), (1, .int _ _), (5, .pointer _), (7, .int _ _), (8, .bool _)] ⟨rfl, rfl, rfl, rfl, rfl, trivial⟩ (fun e5 => (r_seq (r_seq (r_region' (l_q (qmb rfl rfl) (l_nil (r_cond rfl (fun hc6 => ?_) (fun hc6 => ?_))))))))))))))
 ·
  have hfe := hfy hc6
  refine r_seq (r_region' (l_q (qmi rfl rfl) (l_q (qai rfl rfl) (l_nil (r_ret_ (vs := [.int _ _]) rfl Tryz.func39 rfl (.nil _) ⟨rfl, trivial⟩ ?_)))))
  exact ⟨congrArg u64v hfe, _, _, hM, hMemo, hG0⟩
 ·
  have hf0 := hfn hc6
  refine r_skip (r_seq (r_draw ext_refl' ext_trans' [0, 1, 2, 3, 4, 5, 6, 7, 8, 9, 10, 11, 12, 13, 14] [9] 24 (by kernel_rfl) (by kernel_rfl) ?_))
  intro w7 _ hE7
  replace hM := hM.keep (hE7.block m hM.lt (by simp))
  replace hG0 := grown_trans hG0 (gm_ext hE7)
  replace hb1 := hb1.ext hE7
  replace hsz := Nat.le_trans hsz hE7.size
  refine m_q rfl rfl (fun w' hC' => q_move (v := .pointer _) rfl rfl) (m_q rfl rfl (fun w' hC' => q_nilCheck rfl rfl) (m_q rfl rfl (fun w' hC' => q_fieldAddr (o' := 0) rfl fld106_0 rfl) (m_q rfl rfl (fun w' hC' => q_load_agg (n := 4) Tryz.isAgg52 Tryz.sizeOf52 rfl ((((hk.blk.gm hM0 hG0).cells' (cs' := [_, _, _, _]) 0 4 rfl).ext hC')) rfl rfl) (m_q rfl rfl (fun w' hC' => q_fieldAddr (o' := 0) rfl fld115_0 rfl) (m_q rfl rfl (fun w' hC' => q_load Tryz.isAgg3 rfl (((hb1.has (o := 0) rfl).ext hC')) rfl) (m_q rfl rfl (fun w' hC' => qmi rfl rfl) (m_q rfl rfl (fun w' hC' => q_fieldAddr (o' := 1) rfl fld115_1 rfl) (m_q rfl rfl (fun w' hC' => q_load Tryz.isAgg3 rfl (((hb1.has (o := 1) rfl).ext hC')) rfl) (m_o rfl rfl (o_call Tryz.call74 rfl (Reach_ret sa sc sl ra rc rl ka kc kl ua uc ul s ki h _ (hk.gm hM0 hG0).lan hok hgs hgk hgh) rfl ?_))))))))))
  rintro _ w8 ⟨oa, oc, rfl, hRo, hE8⟩
  refine ⟨hE8, ?_⟩
  replace hM := hM.keep (hE8.block m hM.lt (by simp))
  replace hG0 := grown_trans hG0 (gm_ext hE8)
  replace hb1 := hb1.ext hE8
  replace hsz := Nat.le_trans hsz hE8.size
  refine m_q rfl rfl (fun w' hC' => q_move (v := .tuple _) rfl rfl) (m_q rfl rfl (fun w' hC' => q_extract (vs := [_, _]) (v := .slice _ _ _) rfl rfl rfl) (m_q rfl rfl (fun w' hC' => q_extract (vs := [_, _]) (v := .int _ _) rfl rfl rfl) (m_q rfl rfl (fun w' hC' => qas rfl rfl) (m_q rfl rfl (fun w' hC' => qai rfl rfl) (m_nil (r_forget [(0, .pointer _), (1, .int _ _), (5, .pointer _), (7, .int _ _), (9, .slice _ _ _)] ⟨rfl, rfl, rfl, rfl, rfl, trivial⟩ (fun e9 => (r_seq (r_seq (r_region' (l_q (qms rfl rfl) (l_q (q_len rfl Tryz.underlying31 rfl rfl) (l_q (qmi rfl rfl) (l_nil (r_block ?_)))))))))))))))
  refine r_rounds (α := Nat) (fun q e wl => Knows e [(0, ptr wb 0), (1, vint (ki : Int)), (5, ptr b1 0), (7, .int .u64 ((lorL ((hrsF (fun q => canF sl rl kl ul s q ki h) sl.length).take q) : Nat) : Int)), (40, .slice oa ((hrsF (fun q => canF sl rl kl ul s q ki h) sl.length).length) oc), (41, vint ((hrsF (fun q => canF sl rl kl ul s q ki h) sl.length).length : Int)), (42, vint (q : Int))] ∧ (q ≤ (hrsF (fun q => canF sl rl kl ul s q ki h) sl.length).length) ∧ (MapAt wl m es clock) ∧ (w.grownBy wl (some m)) ∧ (Blk wl b1 [vint (s : Int), vint (h : Int)]) ∧ (Row wl oa ((hrsF (fun q => canF sl rl kl ul s q ki h) sl.length).length) oc 1 ((hrsF (fun q => canF sl rl kl ul s q ki h) sl.length).map vint)) ∧ (w.heap.size ≤ wl.heap.size)) (fun q => (hrsF (fun q => canF sl rl kl ul s q ki h) sl.length).length - q) 0 ?_ ?_
  ·
   exact ⟨⟨rfl, rfl, rfl, (by rw [hf0]; rfl), rfl, rfl, rfl, trivial⟩, (Nat.zero_le _), hM, hG0, hb1, hRo, hsz⟩
  ·
   rintro q el10 wl10 ⟨hkn, hq2, hM, hG0, hb1, hRo, hsz⟩ ih10
   obtain ⟨e10, rfl⟩ := knows_env hkn
   refine r_seq (r_region' (l_q (q_lss rfl rfl rfl) (l_nil (r_seq (r_cond rfl (fun hc11 => ?_) (fun hc11 => ?_))))))
   ·
    replace hc11 := dt hc11
    have hqR : q < (hrsF (fun q => canF sl rl kl ul s q ki h) sl.length).length := by omega
    have hqr := hrs_rng _ (getD_lt (l := (hrsF (fun q => canF sl rl kl ul s q ki h) sl.length)) (d := 0) hqR)
    have hqt : (((hrsF (fun q => canF sl rl kl ul s q ki h) sl.length).getD q 0).toNat : Int) = (hrsF (fun q => canF sl rl kl ul s q ki h) sl.length).getD q 0 := Int.toNat_of_nonneg hqr.1
    refine r_skip (r_seq (r_block (r_seq (r_region' ?_))))
    obtain ⟨b12, o12, ha12, hh12⟩ := hRo.at1 q (((hrsF (fun q => canF sl rl kl ul s q ki h) sl.length)).getD q 0) (getD_some (by omega))
    refine l_q (q_indexAddr1 Tryz.underlying31 Tryz.sizeOf3 rfl ha12 rfl (by omega) rfl) (l_q (q_load Tryz.isAgg3 rfl (hh12) rfl) (l_q (qai rfl rfl) (l_nil (r_region' (l_q (qmi rfl rfl) (l_q (qmi rfl rfl) (l_q (q_shl64 (b := ((hrsF (fun q => canF sl rl kl ul s q ki h) sl.length).getD q 0).toNat) rfl (by show Value.int _ _ = _; rw [hqt]) (by omega) rfl) (l_q (q_or64 (a := lorL ((hrsF (fun q => canF sl rl kl ul s q ki h) sl.length).take q)) (b := 1 <<< (((hrsF (fun q => canF sl rl kl ul s q ki h) sl.length).getD q 0).toNat)) rfl rfl (lor_take_lt hs6) (one_shl_lt (by omega)) rfl) (l_q (qai rfl rfl) (l_nil (r_inBlock (r_region' (l_q (q_add rfl rfl (by omega) rfl) (l_q (qmi rfl rfl) (l_nil ?_)))))))))))))))
    exact ih10 (q + 1) _ _ ⟨⟨rfl, rfl, rfl, (congrArg u64v (lor_next hqR).symm), rfl, rfl, (vint_eq (by omega)), trivial⟩, (by omega), hM, hG0, hb1, hRo, hsz⟩ (by first | omega | (dsimp only; omega))
   ·
    replace hc11 := dlt hc11
    refine r_exit rfl (r_seq ?_)
    have hqe : q = (hrsF (fun q => canF sl rl kl ul s q ki h) sl.length).length := by omega
    have hfe : lorL ((hrsF (fun q => canF sl rl kl ul s q ki h) sl.length).take q) = flF sl rl kl ul s ki h := by rw [hqe, List.take_length]; rfl
    refine r_draw ext_refl' ext_trans' [0, 1, 2, 3, 4, 5, 6, 7, 8, 9] [9, 1009] 20 (by kernel_rfl) (by kernel_rfl) ?_
    intro w13 _ hE13
    replace hM := hM.keep (hE13.block m hM.lt (by simp))
    replace hG0 := grown_trans hG0 (gm_ext hE13)
    replace hb1 := hb1.ext hE13
    replace hsz := Nat.le_trans hsz hE13.size
    refine m_q rfl rfl (fun w' hC' => q_move (v := .pointer _) rfl rfl) (m_q rfl rfl (fun w' hC' => q_nilCheck rfl rfl) (m_q rfl rfl (fun w' hC' => q_fieldAddr (o' := 4) rfl fld106_1 rfl) (m_q rfl rfl (fun w' hC' => q_load Tryz.isAgg104 rfl ((((hk.blk.gm hM0 hG0).has (o := 4) rfl).ext hC')) rfl) (m_q rfl rfl (fun w' hC' => qmi rfl rfl) ?_))))
    obtain ⟨b14, o14, ha14, hh14⟩ := (hk.rg.gm hM0 hG0).at1 ki (ms.getD ki 0) (getD_some (by omega))
    rw [hm] at hh14
    refine m_q rfl rfl (fun w' hC' => q_indexAddr1 Tryz.underlying104 Tryz.sizeOf108 rfl ha14 rfl (by omega) rfl) (m_q rfl rfl (fun w' hC' => q_load Tryz.isAgg108 rfl ((hh14.ext hC')) rfl) (m_q rfl rfl (fun w' hC' => q_load_agg (n := 2) Tryz.isAgg115 Tryz.sizeOf115 rfl (((hb1.cells' (cs' := [_, _]) 0 2 rfl).ext hC')) rfl rfl) (m_q rfl rfl (fun w' hC' => qmi rfl rfl) (m_last rfl rfl rfl (o_mapUpdate Tryz.underlying108 Tryz.underlying115 rfl rfl rfl hM (fun em w => rlTy.key (n := 9998) _ _ w) (asks_rl hMemo _ _) (sameBits_ints [(s : Int), (h : Int)]) rfl ?_)))))
    intro es15 ck15 w15 hz15 hM15 hG15 hin15
    replace hsz : w.heap.size ≤ w15.heap.size := by rw [hz15]; exact hsz
    replace hG0 := gm_upd hG0 hG15 (by omega)
    have hM := hM15
    replace hMemo := rl_put hMemo hin15 (congrArg u64v hfe)
    refine m_nil (r_forget [(7, .int _ _)] ⟨rfl, trivial⟩ (fun e16 => (r_seq (r_region' (l_q (qmi rfl rfl) (l_q (qai rfl rfl) (l_nil (r_ret_ (vs := [.int _ _]) rfl Tryz.func39 rfl (.nil _) ⟨rfl, trivial⟩ ?_))))))))
    exact ⟨congrArg u64v hfe, _, _, hM, hMemo, hG0⟩
theorem each_ret (F : Nat) (w : World) : Ret Tryz.prog 40 [.int .u64 ((F : Nat) : Int)] w (fun v w' => ∃ b, v = .func (.func 75) ⟨[]⟩ ⟨[ptr b 0]⟩ ∧ w.heap.size ≤ b ∧ Blk w' b [u64v F] ∧ Ext w w') := by
 have hB := Below.refl w.heap.size w
 have hsz : w.heap.size ≤ w.heap.size := Nat.le_refl _
 refine ret_of_runs (args := [_]) Tryz.func40 rfl (Nat.le_of_ble_eq_true rfl) (by kernel_rfl) (r_seq (r_region' (l_o (o_box rfl rfl rfl ?_))))
 intro b1 w1 hzl1 hzr1 _ hb1 hE1
 have hbs_b1 : w.heap.size ≤ b1 := Nat.le_trans hsz hzl1
 replace hB := below_ext hB hE1 hsz
 replace hsz := Nat.le_trans hsz hE1.size
 refine l_q (q_assign (v := .nilFunc) rfl rfl) (l_nil (r_seq (r_region' (l_q (q_makeFunc (v := .func _ ⟨[]⟩ ⟨[_]⟩) rfl rfl) (l_q (q_assign (v := .func _ _ _) rfl rfl) (l_nil (r_ret_ (vs := [.func _ _ _]) rfl Tryz.func40 rfl (.nil _) ⟨rfl, trivial⟩ ?_)))))))
 exact ⟨b1, rfl, hbs_b1, hb1, Ext.of_below hB⟩
theorem each1_ret (l p1 F : Nat) (J : Nat → World → Prop) (E : World → Prop) (w : World) (hF : F < 64) (h0 : J 0 w) (hJb : ∀ t w, J t w → Blk w p1 [u64v F]) (hJs : ∀ t w1 w2, J t w1 → Below w.heap.size w1 w2 → J t w2) (hskip : ∀ t w1, t ≤ 6 → J t w1 → F.testBit t = false → J (t + 1) w1) (hy : ∀ t w1, t ≤ 6 → J t w1 → w.heap.size ≤ w1.heap.size → F.testBit t = true → YieldAt Tryz.prog l [vint (t : Int)] w1 (fun v w2 => ∃ y : Bool, v = .bool y ∧ (y = true → J (t + 1) w2) ∧ (y = false → E w2) ∧ w1.heap.size ≤ w2.heap.size)) : Ret Tryz.prog 75 [.func (.yield l) ⟨[]⟩ ⟨[]⟩, ptr p1 0] w (fun v w' => J 7 w' ∨ E w') := by
 have hJ := h0
 have hsz : w.heap.size ≤ w.heap.size := Nat.le_refl _
 refine ret_of_runs (args := [_, _]) Tryz.func75 rfl (Nat.le_of_ble_eq_true rfl) (by kernel_rfl) (r_seq (r_region' (l_q (qai rfl rfl) (l_nil (r_block (r_rounds (α := Nat) (fun t e wl => Knows e [(0, .func (.yield l) ⟨[]⟩ ⟨[]⟩), (1, ptr p1 0), (3, vint (t : Int))] ∧ (t ≤ 6) ∧ (J t wl) ∧ (w.heap.size ≤ wl.heap.size)) (fun t => 7 - t) 0 ?_ ?_))))))
 ·
  exact ⟨⟨rfl, rfl, rfl, trivial⟩, (by omega), hJ, hsz⟩
 ·
  rintro t el1 wl1 ⟨hkn, ht7, hJ, hsz⟩ ih1
  obtain ⟨e1, rfl⟩ := knows_env hkn
  refine r_seq (r_seq (r_region' (l_q (q_load Tryz.isAgg112 rfl (((hJb _ _ hJ).has (o := 0) rfl)) rfl) (l_q (qmi rfl rfl) (l_q (q_shr64 (a := F) (b := t) rfl rfl (by omega) rfl) (l_q (q_neq rfl rfl rfl) (l_nil (r_cond rfl (fun hc2 => ?_) (fun hc2 => ?_)))))))))
  ·
   replace hc2 := df (nt hc2)
   have g7 := hc2
   have ht6 : t < 6 := Nat.lt_of_not_le (fun h => g7 (by have := shr_zero hF h; omega))
   refine r_skip (r_seq (r_block (r_seq (r_region' (l_q (q_load Tryz.isAgg112 rfl (((hJb _ _ hJ).has (o := 0) rfl)) rfl) (l_q (qmi rfl rfl) (l_q (q_shr64 (a := F) (b := t) rfl rfl (by omega) rfl) (l_q (q_and64 (a := F >>> t) rfl rfl (Nat.lt_of_le_of_lt (Nat.shiftRight_le _ _) (by omega)) rfl) (l_q (q_eql rfl rfl rfl) (l_q (qmb rfl rfl) (l_part 15 rfl (fun hc3 => ?_) (fun hc3 => ?_))))))))))))
   ·
    replace hc3 := dt hc3
    have g14 : (F >>> t) % 2 = 1 := by have := hc3; omega
    refine l_q (q_move (v := .func (.yield l) ⟨[]⟩ ⟨[]⟩) rfl rfl) (l_q (qmi rfl rfl) (l_o (o_yield rfl rfl (hy t _ (by omega) hJ (by omega) (bit_shr.1 g14)) rfl ?_)))
    rintro _ w4 ⟨y18, rfl, hJy, hEy, hzy⟩
    replace hsz := Nat.le_trans hsz hzy
    refine l_q (q_not rfl rfl) (l_q (q_pick_t (v := .bool _) rfl rfl rfl) (l_nil (r_forget [(0, .func (.yield l) ⟨[]⟩ ⟨[]⟩), (1, .pointer _), (3, .int _ _), (20, .bool _)] ⟨rfl, rfl, rfl, rfl, trivial⟩ (fun e5 => (r_cond rfl (fun hc6 => ?_) (fun hc6 => ?_))))))
    ·
     replace hc6 := nt hc6
     have hE2 := hEy hc6
     refine r_ret_ (vs := []) rfl Tryz.func75 rfl (.nil _) trivial ?_
     exact .inr hE2
    ·
     replace hc6 := nf hc6
     have hJn := hJy hc6
     refine r_skip (r_inBlock (r_region' (l_q (qmi rfl rfl) (l_q (q_add rfl rfl (by omega) rfl) (l_q (qai rfl rfl) (l_nil ?_))))))
     exact ih1 (t + 1) _ _ ⟨⟨rfl, rfl, (vint_eq (by omega)), trivial⟩, (by have := ht6; omega), hJn, hsz⟩ (by first | omega | (dsimp only; omega))
   ·
    replace hc3 := df hc3
    have g14 : F.testBit t = false := by rw [← Bool.not_eq_true, ← bit_shr]; have := hc3; omega
    have hJn := hskip t _ (by omega) hJ g14
    refine l_q (q_skip rfl) (l_q (q_skip rfl) (l_q (q_skip rfl) (l_q (q_skip rfl) (l_q (q_pick_f (v := .bool _) rfl rfl rfl) (l_nil (r_forget [(0, .func (.yield l) ⟨[]⟩ ⟨[]⟩), (1, .pointer _), (3, .int _ _), (20, .bool _)] ⟨rfl, rfl, rfl, rfl, trivial⟩ (fun e7 => (r_cond_f rfl (r_skip (r_inBlock (r_region' (l_q (qmi rfl rfl) (l_q (q_add rfl rfl (by omega) rfl) (l_q (qai rfl rfl) (l_nil ?_)))))))))))))))
    exact ih1 (t + 1) _ _ ⟨⟨rfl, rfl, (vint_eq (by omega)), trivial⟩, (by have := ht6; omega), hJn, hsz⟩ (by first | omega | (dsimp only; omega))
  ·
   replace hc2 := dt (nf hc2)
   have g7 := hc2
   refine r_exit rfl (r_end_ (vs := []) rfl Tryz.func75 rfl (.nil _) trivial ?_)
   exact .inl (up7 hskip (by omega) ht7 hJ)
end Go.Proofs.YtbikicakdkbcgacGreat
