/- Contracts. -/
import Derived.Test.YtbikicakdkbcgacGreatF11
import Derived.Test.YtbikicakdkbcgacGreatGvB
import Derived.Test.YtbikicakdkbcgacGreatGvSpot
import Derived.Test.YtbikicakdkbcgacGreatGvTy3
set_option linter.unusedVariables false
set_option linter.unusedSimpArgs false
namespace Go.Proofs.YtbikicakdkbcgacGreat
open Go Go.RowKit Go.Gv Go.Fl

/-! ### A land -/
structure S4 where
  x : Int
  y : Int
  z : Int
  m : Int
abbrev S4.enc (s : S4) : List Value := [vint s.x, vint s.y, vint s.z, vint s.m]
def s40 : S4 := ⟨0, 0, 0, 0⟩
theorem S4.len (s : S4) : s.enc.length = 4 := rfl
theorem S4.one (s : S4) : s.enc.all Value.oneCell' = true := rfl
structure WL where
  x1 : Int
  y1 : Int
  x2 : Int
  y2 : Int
  ba : Int
  tp : Int
abbrev WL.enc (s : WL) : List Value := [vint s.x1, vint s.y1, vint s.x2, vint s.y2, vint s.ba, vint s.tp]
def wl0 : WL := ⟨0, 0, 0, 0, 0, 0⟩
theorem WL.len (s : WL) : s.enc.length = 6 := rfl
theorem WL.one (s : WL) : s.enc.all Value.oneCell' = true := rfl
structure CL where
  x1 : Int
  y1 : Int
  x2 : Int
  y2 : Int
  ba : Int
  tp : Int
  fr : Int
  to : Int
abbrev CL.enc (s : CL) : List Value := [vint s.x1, vint s.y1, vint s.x2, vint s.y2, vint s.ba, vint s.tp, vint s.fr, vint s.to]
abbrev CL.wl (s : CL) : WL := ⟨s.x1, s.y1, s.x2, s.y2, s.ba, s.tp⟩
def cl0 : CL := ⟨0, 0, 0, 0, 0, 0, 0, 0⟩
theorem CL.len (s : CL) : s.enc.length = 8 := rfl
theorem CL.one (s : CL) : s.enc.all Value.oneCell' = true := rfl
structure S3 where
  e : Int
  n : Int
  u : Int
abbrev S3.enc (s : S3) : List Value := [vint s.e, vint s.n, vint s.u]
def s30 : S3 := ⟨0, 0, 0⟩
theorem S3.len (s : S3) : s.enc.length = 3 := rfl
theorem S3.one (s : S3) : s.enc.all Value.oneCell' = true := rfl
structure KV where
  a : Option Addr
  c : Nat
  xs : List CL
abbrev KV.enc (k : KV) : Value := .slice k.a k.xs.length k.c
def kv0 : KV := ⟨none, 0, []⟩
def RowsK (w : World) (l : List KV) : Prop := ∀ k ∈ l, Row w k.a k.xs.length k.c 8 (k.xs.flatMap CL.enc)
section
variable {w w' : World} {l : List KV} {i : Nat}
theorem RowsK.get (h : RowsK w l) (hi : i < l.length) : Row w (l.getD i kv0).a (l.getD i kv0).xs.length (l.getD i kv0).c 8 ((l.getD i kv0).xs.flatMap CL.enc) := h _ (getD_lt hi)
theorem RowsK.ext (h : RowsK w l) (hE : Ext w w') : RowsK w' l := fun k hk => (h k hk).ext hE
theorem RowsK.below (h : RowsK w l) (hB : Below w.heap.size w w') : RowsK w' l := h.ext (.of_below hB)
theorem RowsK.gm {m : Nat} {es : List MapEntry} {clock : Nat} (h : RowsK w l) (hM : MapAt w m es clock) (hg : w.grownBy w' (some m)) : RowsK w' l := fun k hk => (h k hk).gm hM hg
end
structure LandAt (w : World) (sa : Option Addr) (sc : Nat) (sl : List S4) (ra : Option Addr) (rc : Nat) (rl : List WL) (ka : Option Addr) (kc : Nat) (kl : List KV) (ua : Option Addr) (uc : Nat) (ul : List S3) : Prop where
  rs : Row w sa sl.length sc 4 (sl.flatMap S4.enc)
  rr : Row w ra rl.length rc 6 (rl.flatMap WL.enc)
  rk : Row w ka kl.length kc 1 (kl.map KV.enc)
  rkr : RowsK w kl
  ru : Row w ua ul.length uc 3 (ul.flatMap S3.enc)
section
variable {w w' : World} {sa ra ka ua : Option Addr} {sc rc kc uc : Nat} {sl : List S4} {rl : List WL} {kl : List KV} {ul : List S3}
theorem LandAt.ext (h : LandAt w sa sc sl ra rc rl ka kc kl ua uc ul) (hE : Ext w w') : LandAt w' sa sc sl ra rc rl ka kc kl ua uc ul := ⟨h.rs.ext hE, h.rr.ext hE, h.rk.ext hE, h.rkr.ext hE, h.ru.ext hE⟩
theorem LandAt.below (h : LandAt w sa sc sl ra rc rl ka kc kl ua uc ul) (hB : Below w.heap.size w w') : LandAt w' sa sc sl ra rc rl ka kc kl ua uc ul := h.ext (.of_below hB)
theorem LandAt.gm {m : Nat} {es : List MapEntry} {clock : Nat} (h : LandAt w sa sc sl ra rc rl ka kc kl ua uc ul) (hM : MapAt w m es clock) (hg : w.grownBy w' (some m)) : LandAt w' sa sc sl ra rc rl ka kc kl ua uc ul := ⟨h.rs.gm hM hg, h.rr.gm hM hg, h.rk.gm hM hg, h.rkr.gm hM hg, h.ru.gm hM hg⟩
end
def LaBig (sl : List S4) (rl : List WL) (kl : List KV) (ul : List S3) : Prop := sl.length ≤ 2097152 ∧ rl.length ≤ 2097152 ∧ kl.length ≤ 2097152 ∧ ul.length ≤ 2097152 ∧ ∀ k ∈ kl, k.xs.length ≤ 2097152
def okSt (s : S4) : Bool := decide ((0 ≤ s.x ∧ s.x ≤ 100) ∧ (0 ≤ s.y ∧ s.y ≤ 100) ∧ (0 ≤ s.z ∧ s.z ≤ 1000) ∧ 1 ≤ s.m ∧ s.m ≤ 2)
def okWl (s : WL) : Bool := decide ((0 ≤ s.x1 ∧ s.x1 ≤ 100) ∧ (0 ≤ s.y1 ∧ s.y1 ≤ 100) ∧ (0 ≤ s.x2 ∧ s.x2 ≤ 100) ∧ (0 ≤ s.y2 ∧ s.y2 ≤ 100) ∧ (s.x1 ≠ s.x2 ∨ s.y1 ≠ s.y2) ∧ 0 ≤ s.ba ∧ s.ba ≤ s.tp ∧ s.tp ≤ 1000)
def okRg (s : WL) : Bool := okWl s && decide (s.ba = 0)
def okCl (n : Nat) (c : CL) : Bool := okWl c.wl && decide (0 ≤ c.fr ∧ c.fr ≤ c.to ∧ c.to < (n : Int))
def okSu (s : S3) : Bool := decide ((-100 ≤ s.e ∧ s.e ≤ 100) ∧ (-100 ≤ s.n ∧ s.n ≤ 100) ∧ -100 ≤ s.u ∧ s.u ≤ 100)
structure OkL (sl : List S4) (rl : List WL) (kl : List KV) (ul : List S3) : Prop where
  s6 : sl.length ≤ 6
  r6 : rl.length ≤ 6
  k4 : kl.length ≤ 4
  u12 : ul.length ≤ 12
  few : ∀ i, i < kl.length → (kl.getD i kv0).xs.length ≤ 4
  s0 : 0 < sl.length
  k0 : 0 < kl.length
  u0 : 0 < ul.length
  st : ∀ i, i < sl.length → okSt (sl.getD i s40) = true
  ap : ∀ i, i < sl.length → ∀ j, j < i → ¬ ((sl.getD j s40).x = (sl.getD i s40).x ∧ (sl.getD j s40).y = (sl.getD i s40).y)
  rg : ∀ i, i < rl.length → okRg (rl.getD i wl0) = true
  cl : ∀ i, i < kl.length → ∀ j, j < (kl.getD i kv0).xs.length → okCl ul.length ((kl.getD i kv0).xs.getD j cl0) = true
  su : ∀ i, i < ul.length → okSu (ul.getD i s30) = true
theorem all_ix1 {α : Type} {q : α → Bool} {d : α} {xs : List α} (h : ∀ k, k < xs.length → q (xs.getD k d) = true) : xs.all q = true := List.all_eq_true.2 (fun x hx => by
  obtain ⟨k, hk, rfl⟩ := List.mem_iff_getElem.1 hx
  have := h k hk
  rwa [List.getD_eq_getElem?_getD, List.getElem?_eq_getElem hk] at this)
section
variable {P : Program} {ops : Array Oper} {e : Env} {w : World} {d : Option Nat} {ty : TypeId} {pos : String} {af : Array Edge} {g : Option (Nat × Bool)}
theorem q_neq_pl {t yt el : TypeId} {x y : Operand} {n : Nat} {kd : IntKind} {xs ys : List Int} (ht : P.underlying t = some (.array n el)) (hi : (P.info? el).isSome = true) (hc : P.cellsOf el = 1) (hu : P.underlying el = some (.int kd)) (ha : ∀ w, (isAgg el).run P w = .ok false w)
    (hm : P.eqGuardType P.depth t = false) (hx : ev e x = .agg ⟨xs.map vint⟩) (hy : ev e y = .agg ⟨ys.map vint⟩) (hxl : xs.length = n) (hyl : ys.length = n)
    (hw : wantedE ops e ⟨d, .binOp .neq t x y yt, ty, pos, af, g⟩ = true) : QuietAt P ops e w ⟨d, .binOp .neq t x y yt, ty, pos, af, g⟩ (.bool (!decide (xs = ys))) := by
  obtain ⟨i, hi⟩ := Option.isSome_iff_exists.1 hi
  refine .inl ⟨hw, rfl, ?_⟩
  have h := run_equal_ints (P := P) (d := 9998) ht hi hc hu ha xs ys hxl hyl w
  simp only [execOp, hx, hy, Sem.run_bind, run_eqGuard_agg w _ _ _ _ _ _ hm, Result.andThen_ok, run_neq_struct]
  rw [h]; rfl
end

theorem su_all (s : S3) : [s.e, s.n, s.u].all (fun n => decide (-100 ≤ n) && decide (n ≤ 100)) = okSu s := by
  unfold okSu
  rw [Bool.eq_iff_iff, decide_eq_true_iff]
  simp only [List.all_cons, List.all_nil, Bool.and_eq_true, decide_eq_true_iff]
  exact ⟨fun h => ⟨h.1, h.2.1, h.2.2.1⟩, fun h => ⟨h.1, h.2.1, h.2.2, trivial⟩⟩
theorem few_le {sl : List S4} {rl : List WL} {kl : List KV} {ul : List S3} (h : OkL sl rl kl ul) : ∀ k ∈ kl, k.xs.length ≤ 2097152 := fun k hk => by
  obtain ⟨i, hi, rfl⟩ := List.mem_iff_getElem.1 hk
  have := h.few i hi
  rw [List.getD_eq_getElem?_getD, List.getElem?_eq_getElem hi] at this
  have : kl[i].xs.length ≤ 4 := this
  omega
theorem flat_take {α : Type} {enc : α → List Value} {sz : Nat} (hs : ∀ x, (enc x).length = sz) : ∀ (l : List α) (k : Nat), (l.flatMap enc).take (k * sz) = (l.take k).flatMap enc
  | [], k => by simp
  | x :: l, 0 => by simp
  | x :: l, k + 1 => by
    rw [List.flatMap_cons, List.take_succ_cons, List.flatMap_cons, List.take_append, hs, Nat.succ_mul, Nat.add_sub_cancel, flat_take hs l k, List.take_of_length_le (by rw [hs]; omega)]
theorem flat_drop {α : Type} {enc : α → List Value} {sz : Nat} (hs : ∀ x, (enc x).length = sz) : ∀ (l : List α) (k : Nat), (l.flatMap enc).drop (k * sz) = (l.drop k).flatMap enc
  | [], k => by simp
  | x :: l, 0 => by simp
  | x :: l, k + 1 => by
    rw [List.flatMap_cons, List.drop_succ_cons, List.drop_append, hs, Nat.succ_mul, Nat.add_sub_cancel, flat_drop hs l k, List.drop_eq_nil_of_le (by rw [hs]; omega), List.nil_append]
theorem slice_exw {α : Type} {enc : α → List Value} {sz : Nat} (hs : ∀ x, (enc x).length = sz) {xs : List α} {w : World} {a : Option Addr} {c : Nat} (lo hi : Int) (h : Row w a xs.length c sz (xs.flatMap enc)) (h1 : 0 ≤ lo ∧ lo ≤ hi ∧ hi ≤ xs.length) :
    ∃ a' c', Row w a' (((xs.take hi.toNat).drop lo.toNat)).length c' sz (((xs.take hi.toNat).drop lo.toNat).flatMap enc) ∧
      Value.slice (if c = lo.toNat then a else a.map (·.add (lo.toNat * sz))) (hi.toNat - lo.toNat) (c - lo.toNat) = .slice a' (((xs.take hi.toNat).drop lo.toNat)).length c' := by
  have hr := h.slice (lo := lo.toNat) (hi := hi.toNat) (by omega) (by omega)
  rw [flat_take hs, flat_drop hs] at hr
  have hl : ((xs.take hi.toNat).drop lo.toNat).length = hi.toNat - lo.toNat := by rw [List.length_drop, List.length_take]; omega
  exact ⟨_, _, by rw [hl]; exact hr, by rw [hl]⟩
theorem slice_exw_hi {α : Type} {enc : α → List Value} {sz : Nat} (hs : ∀ x, (enc x).length = sz) {xs : List α} {w : World} {a : Option Addr} {c : Nat} (hi : Int) (h : Row w a xs.length c sz (xs.flatMap enc)) (h1 : 0 ≤ hi ∧ hi ≤ xs.length) :
    ∃ a' c', Row w a' (xs.take hi.toNat).length c' sz ((xs.take hi.toNat).flatMap enc) ∧
      Value.slice (if c = (0 : Int).toNat then a else a.map (·.add ((0 : Int).toNat * sz))) (hi.toNat - (0 : Int).toNat) (c - (0 : Int).toNat) = .slice a' (xs.take hi.toNat).length c' := by
  have := slice_exw hs 0 hi h (by omega)
  simpa only [Int.toNat_zero, List.drop_zero] using this

theorem fld72_0 (w : World) (b o : Nat) : (Instr.fieldAt 72 (ptr b o) 0).run Tryz.prog w = .ok (ptr b (o + 0)) w := by
  simp [Instr.fieldAt, run_underlying Tryz.underlying72, fieldPlace, Instr.sureAddr, Tryz.sizeOf3, Addr.add_lit]
theorem fld72_1 (w : World) (b o : Nat) : (Instr.fieldAt 72 (ptr b o) 1).run Tryz.prog w = .ok (ptr b (o + 1)) w := by
  simp [Instr.fieldAt, run_underlying Tryz.underlying72, fieldPlace, Instr.sureAddr, Tryz.sizeOf3, Addr.add_lit]
theorem fld72_2 (w : World) (b o : Nat) : (Instr.fieldAt 72 (ptr b o) 2).run Tryz.prog w = .ok (ptr b (o + 2)) w := by
  simp [Instr.fieldAt, run_underlying Tryz.underlying72, fieldPlace, Instr.sureAddr, Tryz.sizeOf3, Addr.add_lit]
theorem fld72_3 (w : World) (b o : Nat) : (Instr.fieldAt 72 (ptr b o) 3).run Tryz.prog w = .ok (ptr b (o + 3)) w := by
  simp [Instr.fieldAt, run_underlying Tryz.underlying72, fieldPlace, Instr.sureAddr, Tryz.sizeOf3, Addr.add_lit]
theorem fld83_0 (w : World) (b o : Nat) : (Instr.fieldAt 83 (ptr b o) 0).run Tryz.prog w = .ok (ptr b (o + 0)) w := by
  simp [Instr.fieldAt, run_underlying Tryz.underlying83, fieldPlace, Instr.sureAddr, Tryz.sizeOf3, Addr.add_lit]
theorem fld83_1 (w : World) (b o : Nat) : (Instr.fieldAt 83 (ptr b o) 1).run Tryz.prog w = .ok (ptr b (o + 1)) w := by
  simp [Instr.fieldAt, run_underlying Tryz.underlying83, fieldPlace, Instr.sureAddr, Tryz.sizeOf3, Addr.add_lit]
theorem fld83_2 (w : World) (b o : Nat) : (Instr.fieldAt 83 (ptr b o) 2).run Tryz.prog w = .ok (ptr b (o + 2)) w := by
  simp [Instr.fieldAt, run_underlying Tryz.underlying83, fieldPlace, Instr.sureAddr, Tryz.sizeOf3, Addr.add_lit]
theorem fld83_3 (w : World) (b o : Nat) : (Instr.fieldAt 83 (ptr b o) 3).run Tryz.prog w = .ok (ptr b (o + 3)) w := by
  simp [Instr.fieldAt, run_underlying Tryz.underlying83, fieldPlace, Instr.sureAddr, Tryz.sizeOf3, Addr.add_lit]
theorem fld83_4 (w : World) (b o : Nat) : (Instr.fieldAt 83 (ptr b o) 4).run Tryz.prog w = .ok (ptr b (o + 4)) w := by
  simp [Instr.fieldAt, run_underlying Tryz.underlying83, fieldPlace, Instr.sureAddr, Tryz.sizeOf3, Addr.add_lit]
theorem fld83_5 (w : World) (b o : Nat) : (Instr.fieldAt 83 (ptr b o) 5).run Tryz.prog w = .ok (ptr b (o + 5)) w := by
  simp [Instr.fieldAt, run_underlying Tryz.underlying83, fieldPlace, Instr.sureAddr, Tryz.sizeOf3, Addr.add_lit]
theorem fld73_0 (w : World) (b o : Nat) : (Instr.fieldAt 73 (ptr b o) 0).run Tryz.prog w = .ok (ptr b (o + 0)) w := by
  simp [Instr.fieldAt, run_underlying Tryz.underlying73, fieldPlace, Instr.sureAddr, Tryz.sizeOf3, Addr.add_lit]
theorem fld73_1 (w : World) (b o : Nat) : (Instr.fieldAt 73 (ptr b o) 1).run Tryz.prog w = .ok (ptr b (o + 1)) w := by
  simp [Instr.fieldAt, run_underlying Tryz.underlying73, fieldPlace, Instr.sureAddr, Tryz.sizeOf3, Addr.add_lit]
theorem fld73_2 (w : World) (b o : Nat) : (Instr.fieldAt 73 (ptr b o) 2).run Tryz.prog w = .ok (ptr b (o + 2)) w := by
  simp [Instr.fieldAt, run_underlying Tryz.underlying73, fieldPlace, Instr.sureAddr, Tryz.sizeOf3, Addr.add_lit]
theorem fld103_0 (w : World) (b o : Nat) : (Instr.fieldAt 103 (ptr b o) 0).run Tryz.prog w = .ok (ptr b (o + 0)) w := by
  simp [Instr.fieldAt, run_underlying Tryz.underlying103, fieldPlace, Instr.sureAddr, Tryz.sizeOf83, Addr.add_lit]
theorem fld103_1 (w : World) (b o : Nat) : (Instr.fieldAt 103 (ptr b o) 1).run Tryz.prog w = .ok (ptr b (o + 6)) w := by
  simp [Instr.fieldAt, run_underlying Tryz.underlying103, fieldPlace, Instr.sureAddr, Tryz.sizeOf3, Addr.add_lit]
theorem fld103_2 (w : World) (b o : Nat) : (Instr.fieldAt 103 (ptr b o) 2).run Tryz.prog w = .ok (ptr b (o + 7)) w := by
  simp [Instr.fieldAt, run_underlying Tryz.underlying103, fieldPlace, Instr.sureAddr, Tryz.sizeOf3, Addr.add_lit]
theorem fld52_3 (w : World) (b o : Nat) : (Instr.fieldAt 52 (ptr b o) 3).run Tryz.prog w = .ok (ptr b (o + 3)) w := by
  simp [Instr.fieldAt, run_underlying Tryz.underlying52, fieldPlace, Instr.sureAddr, Tryz.sizeOf50, Addr.add_lit]
theorem fld52_0 (w : World) (b o : Nat) : (Instr.fieldAt 52 (ptr b o) 0).run Tryz.prog w = .ok (ptr b (o + 0)) w := by
  simp [Instr.fieldAt, run_underlying Tryz.underlying52, fieldPlace, Instr.sureAddr, Tryz.sizeOf47, Addr.add_lit]
theorem fld52_1 (w : World) (b o : Nat) : (Instr.fieldAt 52 (ptr b o) 1).run Tryz.prog w = .ok (ptr b (o + 1)) w := by
  simp [Instr.fieldAt, run_underlying Tryz.underlying52, fieldPlace, Instr.sureAddr, Tryz.sizeOf48, Addr.add_lit]
theorem fld52_2 (w : World) (b o : Nat) : (Instr.fieldAt 52 (ptr b o) 2).run Tryz.prog w = .ok (ptr b (o + 2)) w := by
  simp [Instr.fieldAt, run_underlying Tryz.underlying52, fieldPlace, Instr.sureAddr, Tryz.sizeOf49, Addr.add_lit]
theorem hwithin_ret (n lo hi : Int) (w : World) : Ret Tryz.prog 33 [vint n, vint lo, vint hi] w (fun v w' => v = .bool (decide (lo ≤ n) && decide (n ≤ hi)) ∧ w = w') := by
 have hB := Below.refl w.heap.size w
 have hsz : w.heap.size ≤ w.heap.size := Nat.le_refl _
 refine ret_of_runs (args := [_, _, _]) Tryz.func33 rfl (Nat.le_of_ble_eq_true rfl) (by kernel_rfl) (r_seq (r_region' (l_q (qab rfl rfl) (l_nil (r_seq (r_region' (l_q (qmi rfl rfl) (l_q (qmi rfl rfl) (l_q (q_leq rfl rfl rfl) (l_q (qmb rfl rfl) (l_part 10 rfl (fun hc1 => ?_) (fun hc1 => ?_))))))))))))
 ·
  replace hc1 := dt hc1
  refine l_q (qmi rfl rfl) (l_q (qmi rfl rfl) (l_q (q_leq rfl rfl rfl) (l_q (q_pick_t (v := .bool _) rfl rfl rfl) (l_q (qab rfl rfl) (l_nil (r_forget [(6, .bool _)] ⟨rfl, trivial⟩ (fun e2 => (r_ret_ (vs := [.bool _]) rfl Tryz.func33 rfl (.nil _) ⟨rfl, trivial⟩ ?_))))))))
  exact ⟨vbool_eq (by simp_all <;> omega), rfl⟩
 ·
  replace hc1 := dle hc1
  refine l_q (q_skip rfl) (l_q (q_skip rfl) (l_q (q_skip rfl) (l_q (q_pick_f (v := .bool _) rfl rfl rfl) (l_q (qab rfl rfl) (l_nil (r_forget [(6, .bool _)] ⟨rfl, trivial⟩ (fun e3 => (r_ret_ (vs := [.bool _]) rfl Tryz.func33 rfl (.nil _) ⟨rfl, trivial⟩ ?_))))))))
  exact ⟨vbool_eq (by simp_all <;> omega), rfl⟩
theorem in1_ret (n lo hi : Int) (w : World) : Ret Tryz.prog 16 [vint n, vint lo, vint hi] w (fun v w' => v = .bool (decide (lo ≤ n) && decide (n ≤ hi)) ∧ w = w') := by
 have hB := Below.refl w.heap.size w
 have hsz : w.heap.size ≤ w.heap.size := Nat.le_refl _
 refine ret_of_runs (args := [_, _, _]) Tryz.func16 rfl (Nat.le_of_ble_eq_true rfl) (by kernel_rfl) (r_seq (r_region' (l_q (qab rfl rfl) (l_nil (r_seq (r_region' (l_q (qmi rfl rfl) (l_q (qmi rfl rfl) (l_q (q_geq rfl rfl rfl) (l_q (qmb rfl rfl) (l_part 10 rfl (fun hc1 => ?_) (fun hc1 => ?_))))))))))))
 ·
  replace hc1 := dt hc1
  refine l_q (qmi rfl rfl) (l_q (qmi rfl rfl) (l_q (q_leq rfl rfl rfl) (l_q (q_pick_t (v := .bool _) rfl rfl rfl) (l_q (qab rfl rfl) (l_nil (r_forget [(6, .bool _)] ⟨rfl, trivial⟩ (fun e2 => (r_ret_ (vs := [.bool _]) rfl Tryz.func16 rfl (.nil _) ⟨rfl, trivial⟩ ?_))))))))
  exact ⟨vbool_eq (by simp_all <;> omega), rfl⟩
 ·
  replace hc1 := dle hc1
  refine l_q (q_skip rfl) (l_q (q_skip rfl) (l_q (q_skip rfl) (l_q (q_pick_f (v := .bool _) rfl rfl rfl) (l_q (qab rfl rfl) (l_nil (r_forget [(6, .bool _)] ⟨rfl, trivial⟩ (fun e3 => (r_ret_ (vs := [.bool _]) rfl Tryz.func16 rfl (.nil _) ⟨rfl, trivial⟩ ?_))))))))
  exact ⟨vbool_eq (by simp_all <;> omega), rfl⟩
theorem rlwithin_ret (n lo hi : Int) (w : World) : Ret Tryz.prog 37 [vint n, vint lo, vint hi] w (fun v w' => v = .bool (decide (lo ≤ n) && decide (n ≤ hi)) ∧ w = w') := by
 have hB := Below.refl w.heap.size w
 have hsz : w.heap.size ≤ w.heap.size := Nat.le_refl _
 refine ret_of_runs (args := [_, _, _]) Tryz.func37 rfl (Nat.le_of_ble_eq_true rfl) (by kernel_rfl) (r_seq (r_region' (l_q (qab rfl rfl) (l_nil (r_seq (r_region' (l_q (qmi rfl rfl) (l_q (qmi rfl rfl) (l_q (q_leq rfl rfl rfl) (l_q (qmb rfl rfl) (l_part 10 rfl (fun hc1 => ?_) (fun hc1 => ?_))))))))))))
 ·
  replace hc1 := dt hc1
  refine l_q (qmi rfl rfl) (l_q (qmi rfl rfl) (l_q (q_leq rfl rfl rfl) (l_q (q_pick_t (v := .bool _) rfl rfl rfl) (l_q (qab rfl rfl) (l_nil (r_forget [(6, .bool _)] ⟨rfl, trivial⟩ (fun e2 => (r_ret_ (vs := [.bool _]) rfl Tryz.func37 rfl (.nil _) ⟨rfl, trivial⟩ ?_))))))))
  exact ⟨vbool_eq (by simp_all <;> omega), rfl⟩
 ·
  replace hc1 := dle hc1
  refine l_q (q_skip rfl) (l_q (q_skip rfl) (l_q (q_skip rfl) (l_q (q_pick_f (v := .bool _) rfl rfl rfl) (l_q (qab rfl rfl) (l_nil (r_forget [(6, .bool _)] ⟨rfl, trivial⟩ (fun e3 => (r_ret_ (vs := [.bool _]) rfl Tryz.func37 rfl (.nil _) ⟨rfl, trivial⟩ ?_))))))))
  exact ⟨vbool_eq (by simp_all <;> omega), rfl⟩
theorem all1_hint_ret (b : Nat) (g : FuncId) (fst cap cs : List Value) (p : Nat → Bool) (i : Nat) (v : Value) (w : World) (hb : Blk w b [.func (.func g) ⟨fst⟩ ⟨cap⟩]) (hp : PredI Tryz.prog w g fst cap cs p) (hv : cs[i]? = some v) : Ret Tryz.prog 141 [v, ptr b 0] w (fun v w' => v = .bool (!p i) ∧ Ext w w') := by
 have hbl := hb.lt
 have hB := Below.refl w.heap.size w
 have hsz : w.heap.size ≤ w.heap.size := Nat.le_refl _
 refine ret_of_runs (args := [_, _]) Tryz.func141 rfl (Nat.le_of_ble_eq_true rfl) (by kernel_rfl) (r_seq (r_region' (l_q (qab rfl rfl) (l_nil (r_seq (r_region' (l_q (q_load Tryz.isAgg82 rfl (((hb.below hB (by omega)).has (o := 0) rfl)) rfl) (l_q (q_move (v := v) rfl rfl) (l_o (o_callv (f := g) (fst := fst) (cap := cap) rfl hp.1 rfl (hp.2 _ (Ext.of_below hB) i _ hv) rfl ?_))))))))))
 rintro _ w1 ⟨rfl, hE1⟩
 replace hB := below_ext hB hE1 hsz
 replace hsz := Nat.le_trans hsz hE1.size
 refine l_q (q_not rfl rfl) (l_q (qab rfl rfl) (l_nil (r_ret_ (vs := [.bool _]) rfl Tryz.func141 rfl (.nil _) ⟨rfl, trivial⟩ ?_)))
 exact ⟨rfl, Ext.of_below hB⟩
theorem all1_hint_pred {w : World} {b : Nat} {g : FuncId} {fst cap cs : List Value} {p : Nat → Bool} (hb : Blk w b [.func (.func g) ⟨fst⟩ ⟨cap⟩]) (hp : PredI Tryz.prog w g fst cap cs p) :
    PredI Tryz.prog w 141 [] [ptr b 0] cs (fun i => !p i) :=
  ⟨Tryz.call141, fun w' hw i v hv => all1_hint_ret _ _ _ _ _ _ _ _ _ (hb.ext hw) (hp.ext hw) hv⟩
theorem all_hint_ret (a : Option Addr) (n c : Nat) (cs : List Value) (g : FuncId) (fst cap : List Value) (p : Nat → Bool) (w : World) (hrow : Row w a n c 1 cs) (hp : PredI Tryz.prog w g fst cap cs p) (hn : n ≤ 9223372036854775806) : Ret Tryz.prog 106 [.slice a n c, .func (.func g) ⟨fst⟩ ⟨cap⟩] w (fun v w' => v = .bool ((List.range n).all p) ∧ Ext w w') := by
 have hB := Below.refl w.heap.size w
 have hsz : w.heap.size ≤ w.heap.size := Nat.le_refl _
 refine ret_of_runs (args := [_, _]) Tryz.func106 rfl (Nat.le_of_ble_eq_true rfl) (by kernel_rfl) (r_seq (r_region' (l_o (o_box rfl rfl rfl ?_))))
 intro b1 w1 hzl1 hzr1 _ hb1 hE1
 have hbs_b1 : w.heap.size ≤ b1 := Nat.le_trans hsz hzl1
 replace hB := below_ext hB hE1 hsz
 replace hsz := Nat.le_trans hsz hE1.size
 refine l_q (qab rfl rfl) (l_nil (r_seq (r_region' (l_q (qms rfl rfl) (l_q (q_makeFunc (v := .func _ ⟨[]⟩ ⟨[_]⟩) rfl rfl) (l_o (o_call Tryz.call72 rfl (containsFunc_int_ret _ _ _ _ 141 [] [ptr b1 0] (fun i => !p i) _ (hrow.below hB) (all1_hint_pred hb1 (hp.ext (Ext.of_below hB))) hn) rfl ?_)))))))
 rintro _ w2 ⟨rfl, hE2⟩
 replace hB := below_ext hB hE2 hsz
 replace hsz := Nat.le_trans hsz hE2.size
 refine l_q (q_not rfl rfl) (l_q (qab rfl rfl) (l_nil (r_ret_ (vs := [.bool _]) rfl Tryz.func106 rfl (.nil _) ⟨rfl, trivial⟩ ?_)))
 exact ⟨vbool_eq (by rw [List.all_eq_not_any_not]), Ext.of_below hB⟩
theorem all_hint_of {α : Type} {f : α → Value} {xs : List α} (d : α) {q : α → Bool} {w : World} {a : Option Addr} {c : Nat} {g : FuncId} {fst cap : List Value} (hin : ∀ args w, (callFunc g args).run Tryz.prog w = .ok (.enter g args) w)
    (hrow : Row w a xs.length c 1 (xs.map f)) (h : ∀ w', Ext w w' → ∀ x ∈ xs, Ret Tryz.prog g (fst ++ [f x] ++ cap) w' (fun r w'' => r = .bool (q x) ∧ Ext w' w'')) (hn : xs.length ≤ 9223372036854775806) :
    Ret Tryz.prog 106 [.slice a xs.length c, .func (.func g) ⟨fst⟩ ⟨cap⟩] w (fun v w' => v = .bool (xs.all q) ∧ Ext w w') :=
  (all_hint_ret _ _ _ _ _ _ _ _ _ hrow (predI_of d hin h) hn).mono (fun v w' hx => ⟨by rw [hx.1, range_all xs d q], hx.2⟩)
theorem indexFunc_s4_ret (a : Option Addr) (c : Nat) (xs : List S4) (g : FuncId) (fst cap : List Value) (q : S4 → Bool) (w : World) (hrow : Row w a xs.length c 4 (xs.flatMap S4.enc)) (hin : ∀ args w, (callFunc g args).run Tryz.prog w = .ok (.enter g args) w) (hp : ∀ w', Ext w w' → ∀ x ∈ xs, Ret Tryz.prog g (fst ++ [.agg ⟨S4.enc x⟩] ++ cap) w' (fun r w'' => r = .bool (q x) ∧ Ext w' w'')) (hn : xs.length ≤ 9223372036854775806) : Ret Tryz.prog 138 [.slice a xs.length c, .func (.func g) ⟨fst⟩ ⟨cap⟩] w (fun v w' => v = vint (idxI (fun i => q (xs.getD i s40)) xs.length) ∧ Ext w w') := by
 have hB := Below.refl w.heap.size w
 have hsz : w.heap.size ≤ w.heap.size := Nat.le_refl _
 refine ret_of_runs (args := [_, _]) Tryz.func138 rfl (Nat.le_of_ble_eq_true rfl) (by kernel_rfl) (r_seq (r_region' (l_q (qai rfl rfl) (l_nil (r_seq (r_seq (r_region' (l_q (qms rfl rfl) (l_q (q_len rfl Tryz.underlying47 rfl rfl) (l_q (qmi rfl rfl) (l_nil (r_block (r_rounds (α := Nat) (fun k e wl => Knows e [(0, .slice a xs.length c), (1, .func (.func g) ⟨fst⟩ ⟨cap⟩), (7, vint (xs.length : Int)), (8, vint (k : Int))] ∧ (k ≤ xs.length) ∧ (∀ i, i < k → q (xs.getD i s40) = false) ∧ (w.heap.size ≤ wl.heap.size) ∧ (Below w.heap.size w wl)) (fun k => xs.length - k) 0 ?_ ?_)))))))))))))
 ·
  exact ⟨⟨rfl, rfl, rfl, rfl, trivial⟩, (Nat.zero_le _), (fun i hi => absurd hi (Nat.not_lt_zero _)), hsz, hB⟩
 ·
  rintro k el1 wl1 ⟨hkn, hk, hno, hsz, hB⟩ ih1
  obtain ⟨e1, rfl⟩ := knows_env hkn
  refine r_seq (r_region' (l_q (q_lss rfl rfl rfl) (l_nil (r_seq (r_cond rfl (fun hc2 => ?_) (fun hc2 => ?_))))))
  ·
   replace hc2 := dt hc2
   refine r_skip (r_seq (r_block (r_seq (r_region' (l_q (qmi rfl rfl) (l_q (qai rfl rfl) (l_nil (r_seq (r_region' (l_q (q_move (v := .func _ _ _) rfl rfl) (l_q (qms rfl rfl) (l_q (qmi rfl rfl) ?_))))))))))))
   obtain ⟨b3, o3, ha3, hh3⟩ := (hrow.below hB).at (by decide) k (by omega)
   refine l_q (q_indexAddr Tryz.underlying47 Tryz.sizeOf72 rfl ha3 rfl (by omega) rfl) (l_q (q_load_agg (cs := [vint (((xs).getD k s40).x), vint (((xs).getD k s40).y), vint (((xs).getD k s40).z), vint (((xs).getD k s40).m)]) (n := 4) Tryz.isAgg72 Tryz.sizeOf72 rfl ((cells_cast (wide_at S4.len s40 _ _ (by omega)) hh3)) rfl rfl) (l_o (o_callv (f := g) (fst := fst) (cap := cap) rfl hin rfl (hp _ (Ext.of_below hB) _ (getD_lt (d := s40) (i := k) (by omega))) rfl ?_)))
   rintro _ w4 ⟨rfl, hE4⟩
   replace hB := below_ext hB hE4 hsz
   replace hsz := Nat.le_trans hsz hE4.size
   refine l_nil (r_cond rfl (fun hc5 => ?_) (fun hc5 => ?_))
   ·
    refine r_seq (r_region' (l_q (qmi rfl rfl) (l_q (qai rfl rfl) (l_nil (r_forget [(4, .int _ _)] ⟨rfl, trivial⟩ (fun e6 => (r_ret_ (vs := [.int _ _]) rfl Tryz.func138 rfl (.nil _) ⟨rfl, trivial⟩ ?_)))))))
    exact ⟨vint_eq (idxI_found (p := (fun i => q (xs.getD i s40))) (by omega) (by assumption) hno).symm, Ext.of_below hB⟩
   ·
    refine r_skip (r_inBlock (r_region' (l_q (q_add rfl rfl (by omega) rfl) (l_q (qmi rfl rfl) (l_nil (r_forget [(0, .slice _ _ _), (1, .func _ _ _), (7, .int _ _), (8, .int _ _)] ⟨rfl, rfl, rfl, rfl, trivial⟩ (fun e7 => ?_)))))))
    exact ih1 (k + 1) _ _ ⟨⟨rfl, rfl, rfl, by first | rfl | exact vint_eq (by omega), trivial⟩, (by omega), (fun i hi => by rcases Nat.lt_succ_iff_lt_or_eq.1 hi with h | h; exact hno i h; subst h; assumption), hsz, hB⟩ (by first | omega | (dsimp only; omega))
  ·
   replace hc2 := dlt hc2
   refine r_exit rfl (r_seq (r_region' (l_q (qai rfl rfl) (l_nil (r_ret_ (vs := [.int _ _]) rfl Tryz.func138 rfl (.nil _) ⟨rfl, trivial⟩ ?_)))))
   exact ⟨vint_eq (idxI_none (p := (fun i => q (xs.getD i s40))) (fun i hi => hno i (by omega))).symm, Ext.of_below hB⟩
theorem containsFunc_s4_ret (a : Option Addr) (c : Nat) (xs : List S4) (g : FuncId) (fst cap : List Value) (q : S4 → Bool) (w : World) (hrow : Row w a xs.length c 4 (xs.flatMap S4.enc)) (hin : ∀ args w, (callFunc g args).run Tryz.prog w = .ok (.enter g args) w) (hp : ∀ w', Ext w w' → ∀ x ∈ xs, Ret Tryz.prog g (fst ++ [.agg ⟨S4.enc x⟩] ++ cap) w' (fun r w'' => r = .bool (q x) ∧ Ext w' w'')) (hn : xs.length ≤ 9223372036854775806) : Ret Tryz.prog 98 [.slice a xs.length c, .func (.func g) ⟨fst⟩ ⟨cap⟩] w (fun v w' => v = .bool (xs.any q) ∧ Ext w w') := by
 have hB := Below.refl w.heap.size w
 have hsz : w.heap.size ≤ w.heap.size := Nat.le_refl _
 refine ret_of_runs (args := [_, _]) Tryz.func98 rfl (Nat.le_of_ble_eq_true rfl) (by kernel_rfl) (r_seq (r_region' (l_q (qab rfl rfl) (l_nil (r_seq (r_region' (l_q (qms rfl rfl) (l_q (q_move (v := .func _ _ _) rfl rfl) (l_o (o_call Tryz.call138 rfl (indexFunc_s4_ret _ _ _ _ _ _ _ _ (hrow.below hB) hin hp hn) rfl ?_))))))))))
 rintro _ w1 ⟨rfl, hE1⟩
 replace hB := below_ext hB hE1 hsz
 replace hsz := Nat.le_trans hsz hE1.size
 refine l_q (q_geq rfl rfl rfl) (l_q (qab rfl rfl) (l_nil (r_ret_ (vs := [.bool _]) rfl Tryz.func98 rfl (.nil _) ⟨rfl, trivial⟩ ?_)))
 exact ⟨vbool_eq (by rw [idxI_nonneg, range_any xs s40 q]), Ext.of_below hB⟩
theorem all1_s4_ret (b : Nat) (g : FuncId) (fst cap : List Value) (q : S4 → Bool) (x : S4) (w : World) (hb : Blk w b [.func (.func g) ⟨fst⟩ ⟨cap⟩]) (hin : ∀ args w, (callFunc g args).run Tryz.prog w = .ok (.enter g args) w) (hp : ∀ w', Ext w w' → Ret Tryz.prog g (fst ++ [.agg ⟨S4.enc x⟩] ++ cap) w' (fun r w'' => r = .bool (q x) ∧ Ext w' w'')) : Ret Tryz.prog 99 [.agg ⟨[vint x.x, vint x.y, vint x.z, vint x.m]⟩, ptr b 0] w (fun v w' => v = .bool (!q x) ∧ Ext w w') := by
 have hbl := hb.lt
 have hB := Below.refl w.heap.size w
 have hsz : w.heap.size ≤ w.heap.size := Nat.le_refl _
 refine ret_of_runs (args := [_, _]) Tryz.func99 rfl (Nat.le_of_ble_eq_true rfl) (by kernel_rfl) (r_seq (r_region' (l_o (o_box rfl rfl rfl ?_))))
 intro b1 w1 hzl1 hzr1 _ hb1 hE1
 have hbs_b1 : w.heap.size ≤ b1 := Nat.le_trans hsz hzl1
 replace hB := below_ext hB hE1 hsz
 replace hsz := Nat.le_trans hsz hE1.size
 refine l_q (qab rfl rfl) (l_nil (r_seq (r_region' (l_q (q_load Tryz.isAgg137 rfl (((hb.below hB (by omega)).has (o := 0) rfl)) rfl) (l_q (q_load_agg (n := 4) Tryz.isAgg72 Tryz.sizeOf72 rfl ((hb1.cells' (cs' := [_, _, _, _]) 0 4 rfl)) rfl rfl) (l_o (o_callv (f := g) (fst := fst) (cap := cap) rfl hin rfl (hp _ (Ext.of_below hB)) rfl ?_)))))))
 rintro _ w2 ⟨rfl, hE2⟩
 replace hB := below_ext hB hE2 hsz
 replace hsz := Nat.le_trans hsz hE2.size
 refine l_q (q_not rfl rfl) (l_q (qab rfl rfl) (l_nil (r_ret_ (vs := [.bool _]) rfl Tryz.func99 rfl (.nil _) ⟨rfl, trivial⟩ ?_)))
 exact ⟨rfl, Ext.of_below hB⟩
theorem all_s4_ret (a : Option Addr) (c : Nat) (xs : List S4) (g : FuncId) (fst cap : List Value) (q : S4 → Bool) (w : World) (hrow : Row w a xs.length c 4 (xs.flatMap S4.enc)) (hin : ∀ args w, (callFunc g args).run Tryz.prog w = .ok (.enter g args) w) (hp : ∀ w', Ext w w' → ∀ x ∈ xs, Ret Tryz.prog g (fst ++ [.agg ⟨S4.enc x⟩] ++ cap) w' (fun r w'' => r = .bool (q x) ∧ Ext w' w'')) (hn : xs.length ≤ 9223372036854775806) : Ret Tryz.prog 62 [.slice a xs.length c, .func (.func g) ⟨fst⟩ ⟨cap⟩] w (fun v w' => v = .bool (xs.all q) ∧ Ext w w') := by
 have hB := Below.refl w.heap.size w
 have hsz : w.heap.size ≤ w.heap.size := Nat.le_refl _
 refine ret_of_runs (args := [_, _]) Tryz.func62 rfl (Nat.le_of_ble_eq_true rfl) (by kernel_rfl) (r_seq (r_region' (l_o (o_box rfl rfl rfl ?_))))
 intro b1 w1 hzl1 hzr1 _ hb1 hE1
 have hbs_b1 : w.heap.size ≤ b1 := Nat.le_trans hsz hzl1
 replace hB := below_ext hB hE1 hsz
 replace hsz := Nat.le_trans hsz hE1.size
 refine l_q (qab rfl rfl) (l_nil (r_seq (r_region' (l_q (qms rfl rfl) (l_q (q_makeFunc (v := .func _ ⟨[]⟩ ⟨[_]⟩) rfl rfl) (l_o (o_call Tryz.call98 rfl (containsFunc_s4_ret _ _ xs 99 [] [ptr b1 0] (fun x => !q x) _ (hrow.below hB) Tryz.call99 (fun w' hw x hx => all1_s4_ret _ _ _ _ _ _ _ (hb1.ext hw) hin (fun w'' hw'' => hp _ ((Ext.of_below hB).trans (hw.trans hw'')) x hx)) hn) rfl ?_)))))))
 rintro _ w2 ⟨rfl, hE2⟩
 replace hB := below_ext hB hE2 hsz
 replace hsz := Nat.le_trans hsz hE2.size
 refine l_q (q_not rfl rfl) (l_q (qab rfl rfl) (l_nil (r_ret_ (vs := [.bool _]) rfl Tryz.func62 rfl (.nil _) ⟨rfl, trivial⟩ ?_)))
 exact ⟨vbool_eq (by rw [List.all_eq_not_any_not]), Ext.of_below hB⟩
theorem indexFunc_wl_ret (a : Option Addr) (c : Nat) (xs : List WL) (g : FuncId) (fst cap : List Value) (q : WL → Bool) (w : World) (hrow : Row w a xs.length c 6 (xs.flatMap WL.enc)) (hin : ∀ args w, (callFunc g args).run Tryz.prog w = .ok (.enter g args) w) (hp : ∀ w', Ext w w' → ∀ x ∈ xs, Ret Tryz.prog g (fst ++ [.agg ⟨WL.enc x⟩] ++ cap) w' (fun r w'' => r = .bool (q x) ∧ Ext w' w'')) (hn : xs.length ≤ 9223372036854775806) : Ret Tryz.prog 139 [.slice a xs.length c, .func (.func g) ⟨fst⟩ ⟨cap⟩] w (fun v w' => v = vint (idxI (fun i => q (xs.getD i wl0)) xs.length) ∧ Ext w w') := by
 have hB := Below.refl w.heap.size w
 have hsz : w.heap.size ≤ w.heap.size := Nat.le_refl _
 refine ret_of_runs (args := [_, _]) Tryz.func139 rfl (Nat.le_of_ble_eq_true rfl) (by kernel_rfl) (r_seq (r_region' (l_q (qai rfl rfl) (l_nil (r_seq (r_seq (r_region' (l_q (qms rfl rfl) (l_q (q_len rfl Tryz.underlying48 rfl rfl) (l_q (qmi rfl rfl) (l_nil (r_block (r_rounds (α := Nat) (fun k e wl => Knows e [(0, .slice a xs.length c), (1, .func (.func g) ⟨fst⟩ ⟨cap⟩), (7, vint (xs.length : Int)), (8, vint (k : Int))] ∧ (k ≤ xs.length) ∧ (∀ i, i < k → q (xs.getD i wl0) = false) ∧ (w.heap.size ≤ wl.heap.size) ∧ (Below w.heap.size w wl)) (fun k => xs.length - k) 0 ?_ ?_)))))))))))))
 ·
  exact ⟨⟨rfl, rfl, rfl, rfl, trivial⟩, (Nat.zero_le _), (fun i hi => absurd hi (Nat.not_lt_zero _)), hsz, hB⟩
 ·
  rintro k el1 wl1 ⟨hkn, hk, hno, hsz, hB⟩ ih1
  obtain ⟨e1, rfl⟩ := knows_env hkn
  refine r_seq (r_region' (l_q (q_lss rfl rfl rfl) (l_nil (r_seq (r_cond rfl (fun hc2 => ?_) (fun hc2 => ?_))))))
  ·
   replace hc2 := dt hc2
   refine r_skip (r_seq (r_block (r_seq (r_region' (l_q (qmi rfl rfl) (l_q (qai rfl rfl) (l_nil (r_seq (r_region' (l_q (q_move (v := .func _ _ _) rfl rfl) (l_q (qms rfl rfl) (l_q (qmi rfl rfl) ?_))))))))))))
   obtain ⟨b3, o3, ha3, hh3⟩ := (hrow.below hB).at (by decide) k (by omega)
   refine l_q (q_indexAddr Tryz.underlying48 Tryz.sizeOf83 rfl ha3 rfl (by omega) rfl) (l_q (q_load_agg (cs := [vint (((xs).getD k wl0).x1), vint (((xs).getD k wl0).y1), vint (((xs).getD k wl0).x2), vint (((xs).getD k wl0).y2), vint (((xs).getD k wl0).ba), vint (((xs).getD k wl0).tp)]) (n := 6) Tryz.isAgg83 Tryz.sizeOf83 rfl ((cells_cast (wide_at WL.len wl0 _ _ (by omega)) hh3)) rfl rfl) (l_o (o_callv (f := g) (fst := fst) (cap := cap) rfl hin rfl (hp _ (Ext.of_below hB) _ (getD_lt (d := wl0) (i := k) (by omega))) rfl ?_)))
   rintro _ w4 ⟨rfl, hE4⟩
   replace hB := below_ext hB hE4 hsz
   replace hsz := Nat.le_trans hsz hE4.size
   refine l_nil (r_cond rfl (fun hc5 => ?_) (fun hc5 => ?_))
   ·
    refine r_seq (r_region' (l_q (qmi rfl rfl) (l_q (qai rfl rfl) (l_nil (r_forget [(4, .int _ _)] ⟨rfl, trivial⟩ (fun e6 => (r_ret_ (vs := [.int _ _]) rfl Tryz.func139 rfl (.nil _) ⟨rfl, trivial⟩ ?_)))))))
    exact ⟨vint_eq (idxI_found (p := (fun i => q (xs.getD i wl0))) (by omega) (by assumption) hno).symm, Ext.of_below hB⟩
   ·
    refine r_skip (r_inBlock (r_region' (l_q (q_add rfl rfl (by omega) rfl) (l_q (qmi rfl rfl) (l_nil (r_forget [(0, .slice _ _ _), (1, .func _ _ _), (7, .int _ _), (8, .int _ _)] ⟨rfl, rfl, rfl, rfl, trivial⟩ (fun e7 => ?_)))))))
    exact ih1 (k + 1) _ _ ⟨⟨rfl, rfl, rfl, by first | rfl | exact vint_eq (by omega), trivial⟩, (by omega), (fun i hi => by rcases Nat.lt_succ_iff_lt_or_eq.1 hi with h | h; exact hno i h; subst h; assumption), hsz, hB⟩ (by first | omega | (dsimp only; omega))
  ·
   replace hc2 := dlt hc2
   refine r_exit rfl (r_seq (r_region' (l_q (qai rfl rfl) (l_nil (r_ret_ (vs := [.int _ _]) rfl Tryz.func139 rfl (.nil _) ⟨rfl, trivial⟩ ?_)))))
   exact ⟨vint_eq (idxI_none (p := (fun i => q (xs.getD i wl0))) (fun i hi => hno i (by omega))).symm, Ext.of_below hB⟩
theorem containsFunc_wl_ret (a : Option Addr) (c : Nat) (xs : List WL) (g : FuncId) (fst cap : List Value) (q : WL → Bool) (w : World) (hrow : Row w a xs.length c 6 (xs.flatMap WL.enc)) (hin : ∀ args w, (callFunc g args).run Tryz.prog w = .ok (.enter g args) w) (hp : ∀ w', Ext w w' → ∀ x ∈ xs, Ret Tryz.prog g (fst ++ [.agg ⟨WL.enc x⟩] ++ cap) w' (fun r w'' => r = .bool (q x) ∧ Ext w' w'')) (hn : xs.length ≤ 9223372036854775806) : Ret Tryz.prog 102 [.slice a xs.length c, .func (.func g) ⟨fst⟩ ⟨cap⟩] w (fun v w' => v = .bool (xs.any q) ∧ Ext w w') := by
 have hB := Below.refl w.heap.size w
 have hsz : w.heap.size ≤ w.heap.size := Nat.le_refl _
 refine ret_of_runs (args := [_, _]) Tryz.func102 rfl (Nat.le_of_ble_eq_true rfl) (by kernel_rfl) (r_seq (r_region' (l_q (qab rfl rfl) (l_nil (r_seq (r_region' (l_q (qms rfl rfl) (l_q (q_move (v := .func _ _ _) rfl rfl) (l_o (o_call Tryz.call139 rfl (indexFunc_wl_ret _ _ _ _ _ _ _ _ (hrow.below hB) hin hp hn) rfl ?_))))))))))
 rintro _ w1 ⟨rfl, hE1⟩
 replace hB := below_ext hB hE1 hsz
 replace hsz := Nat.le_trans hsz hE1.size
 refine l_q (q_geq rfl rfl rfl) (l_q (qab rfl rfl) (l_nil (r_ret_ (vs := [.bool _]) rfl Tryz.func102 rfl (.nil _) ⟨rfl, trivial⟩ ?_)))
 exact ⟨vbool_eq (by rw [idxI_nonneg, range_any xs wl0 q]), Ext.of_below hB⟩
theorem all1_wl_ret (b : Nat) (g : FuncId) (fst cap : List Value) (q : WL → Bool) (x : WL) (w : World) (hb : Blk w b [.func (.func g) ⟨fst⟩ ⟨cap⟩]) (hin : ∀ args w, (callFunc g args).run Tryz.prog w = .ok (.enter g args) w) (hp : ∀ w', Ext w w' → Ret Tryz.prog g (fst ++ [.agg ⟨WL.enc x⟩] ++ cap) w' (fun r w'' => r = .bool (q x) ∧ Ext w' w'')) : Ret Tryz.prog 103 [.agg ⟨[vint x.x1, vint x.y1, vint x.x2, vint x.y2, vint x.ba, vint x.tp]⟩, ptr b 0] w (fun v w' => v = .bool (!q x) ∧ Ext w w') := by
 have hbl := hb.lt
 have hB := Below.refl w.heap.size w
 have hsz : w.heap.size ≤ w.heap.size := Nat.le_refl _
 refine ret_of_runs (args := [_, _]) Tryz.func103 rfl (Nat.le_of_ble_eq_true rfl) (by kernel_rfl) (r_seq (r_region' (l_o (o_box rfl rfl rfl ?_))))
 intro b1 w1 hzl1 hzr1 _ hb1 hE1
 have hbs_b1 : w.heap.size ≤ b1 := Nat.le_trans hsz hzl1
 replace hB := below_ext hB hE1 hsz
 replace hsz := Nat.le_trans hsz hE1.size
 refine l_q (qab rfl rfl) (l_nil (r_seq (r_region' (l_q (q_load Tryz.isAgg139 rfl (((hb.below hB (by omega)).has (o := 0) rfl)) rfl) (l_q (q_load_agg (n := 6) Tryz.isAgg83 Tryz.sizeOf83 rfl ((hb1.cells' (cs' := [_, _, _, _, _, _]) 0 6 rfl)) rfl rfl) (l_o (o_callv (f := g) (fst := fst) (cap := cap) rfl hin rfl (hp _ (Ext.of_below hB)) rfl ?_)))))))
 rintro _ w2 ⟨rfl, hE2⟩
 replace hB := below_ext hB hE2 hsz
 replace hsz := Nat.le_trans hsz hE2.size
 refine l_q (q_not rfl rfl) (l_q (qab rfl rfl) (l_nil (r_ret_ (vs := [.bool _]) rfl Tryz.func103 rfl (.nil _) ⟨rfl, trivial⟩ ?_)))
 exact ⟨rfl, Ext.of_below hB⟩
theorem all_wl_ret (a : Option Addr) (c : Nat) (xs : List WL) (g : FuncId) (fst cap : List Value) (q : WL → Bool) (w : World) (hrow : Row w a xs.length c 6 (xs.flatMap WL.enc)) (hin : ∀ args w, (callFunc g args).run Tryz.prog w = .ok (.enter g args) w) (hp : ∀ w', Ext w w' → ∀ x ∈ xs, Ret Tryz.prog g (fst ++ [.agg ⟨WL.enc x⟩] ++ cap) w' (fun r w'' => r = .bool (q x) ∧ Ext w' w'')) (hn : xs.length ≤ 9223372036854775806) : Ret Tryz.prog 65 [.slice a xs.length c, .func (.func g) ⟨fst⟩ ⟨cap⟩] w (fun v w' => v = .bool (xs.all q) ∧ Ext w w') := by
 have hB := Below.refl w.heap.size w
 have hsz : w.heap.size ≤ w.heap.size := Nat.le_refl _
 refine ret_of_runs (args := [_, _]) Tryz.func65 rfl (Nat.le_of_ble_eq_true rfl) (by kernel_rfl) (r_seq (r_region' (l_o (o_box rfl rfl rfl ?_))))
 intro b1 w1 hzl1 hzr1 _ hb1 hE1
 have hbs_b1 : w.heap.size ≤ b1 := Nat.le_trans hsz hzl1
 replace hB := below_ext hB hE1 hsz
 replace hsz := Nat.le_trans hsz hE1.size
 refine l_q (qab rfl rfl) (l_nil (r_seq (r_region' (l_q (qms rfl rfl) (l_q (q_makeFunc (v := .func _ ⟨[]⟩ ⟨[_]⟩) rfl rfl) (l_o (o_call Tryz.call102 rfl (containsFunc_wl_ret _ _ xs 103 [] [ptr b1 0] (fun x => !q x) _ (hrow.below hB) Tryz.call103 (fun w' hw x hx => all1_wl_ret _ _ _ _ _ _ _ (hb1.ext hw) hin (fun w'' hw'' => hp _ ((Ext.of_below hB).trans (hw.trans hw'')) x hx)) hn) rfl ?_)))))))
 rintro _ w2 ⟨rfl, hE2⟩
 replace hB := below_ext hB hE2 hsz
 replace hsz := Nat.le_trans hsz hE2.size
 refine l_q (q_not rfl rfl) (l_q (qab rfl rfl) (l_nil (r_ret_ (vs := [.bool _]) rfl Tryz.func65 rfl (.nil _) ⟨rfl, trivial⟩ ?_)))
 exact ⟨vbool_eq (by rw [List.all_eq_not_any_not]), Ext.of_below hB⟩
theorem indexFunc_cl_ret (a : Option Addr) (c : Nat) (xs : List CL) (g : FuncId) (fst cap : List Value) (q : CL → Bool) (w : World) (hrow : Row w a xs.length c 8 (xs.flatMap CL.enc)) (hin : ∀ args w, (callFunc g args).run Tryz.prog w = .ok (.enter g args) w) (hp : ∀ w', Ext w w' → ∀ x ∈ xs, Ret Tryz.prog g (fst ++ [.agg ⟨CL.enc x⟩] ++ cap) w' (fun r w'' => r = .bool (q x) ∧ Ext w' w'')) (hn : xs.length ≤ 9223372036854775806) : Ret Tryz.prog 136 [.slice a xs.length c, .func (.func g) ⟨fst⟩ ⟨cap⟩] w (fun v w' => v = vint (idxI (fun i => q (xs.getD i cl0)) xs.length) ∧ Ext w w') := by
 have hB := Below.refl w.heap.size w
 have hsz : w.heap.size ≤ w.heap.size := Nat.le_refl _
 refine ret_of_runs (args := [_, _]) Tryz.func136 rfl (Nat.le_of_ble_eq_true rfl) (by kernel_rfl) (r_seq (r_region' (l_q (qai rfl rfl) (l_nil (r_seq (r_seq (r_region' (l_q (qms rfl rfl) (l_q (q_len rfl Tryz.underlying85 rfl rfl) (l_q (qmi rfl rfl) (l_nil (r_block (r_rounds (α := Nat) (fun k e wl => Knows e [(0, .slice a xs.length c), (1, .func (.func g) ⟨fst⟩ ⟨cap⟩), (7, vint (xs.length : Int)), (8, vint (k : Int))] ∧ (k ≤ xs.length) ∧ (∀ i, i < k → q (xs.getD i cl0) = false) ∧ (w.heap.size ≤ wl.heap.size) ∧ (Below w.heap.size w wl)) (fun k => xs.length - k) 0 ?_ ?_)))))))))))))
 ·
  exact ⟨⟨rfl, rfl, rfl, rfl, trivial⟩, (Nat.zero_le _), (fun i hi => absurd hi (Nat.not_lt_zero _)), hsz, hB⟩
 ·
  rintro k el1 wl1 ⟨hkn, hk, hno, hsz, hB⟩ ih1
  obtain ⟨e1, rfl⟩ := knows_env hkn
  refine r_seq (r_region' (l_q (q_lss rfl rfl rfl) (l_nil (r_seq (r_cond rfl (fun hc2 => ?_) (fun hc2 => ?_))))))
  ·
   replace hc2 := dt hc2
   refine r_skip (r_seq (r_block (r_seq (r_region' (l_q (qmi rfl rfl) (l_q (qai rfl rfl) (l_nil (r_seq (r_region' (l_q (q_move (v := .func _ _ _) rfl rfl) (l_q (qms rfl rfl) (l_q (qmi rfl rfl) ?_))))))))))))
   obtain ⟨b3, o3, ha3, hh3⟩ := (hrow.below hB).at (by decide) k (by omega)
   refine l_q (q_indexAddr Tryz.underlying85 Tryz.sizeOf103 rfl ha3 rfl (by omega) rfl) (l_q (q_load_agg (cs := [vint (((xs).getD k cl0).x1), vint (((xs).getD k cl0).y1), vint (((xs).getD k cl0).x2), vint (((xs).getD k cl0).y2), vint (((xs).getD k cl0).ba), vint (((xs).getD k cl0).tp), vint (((xs).getD k cl0).fr), vint (((xs).getD k cl0).to)]) (n := 8) Tryz.isAgg103 Tryz.sizeOf103 rfl ((cells_cast (wide_at CL.len cl0 _ _ (by omega)) hh3)) rfl rfl) (l_o (o_callv (f := g) (fst := fst) (cap := cap) rfl hin rfl (hp _ (Ext.of_below hB) _ (getD_lt (d := cl0) (i := k) (by omega))) rfl ?_)))
   rintro _ w4 ⟨rfl, hE4⟩
   replace hB := below_ext hB hE4 hsz
   replace hsz := Nat.le_trans hsz hE4.size
   refine l_nil (r_cond rfl (fun hc5 => ?_) (fun hc5 => ?_))
   ·
    refine r_seq (r_region' (l_q (qmi rfl rfl) (l_q (qai rfl rfl) (l_nil (r_forget [(4, .int _ _)] ⟨rfl, trivial⟩ (fun e6 => (r_ret_ (vs := [.int _ _]) rfl Tryz.func136 rfl (.nil _) ⟨rfl, trivial⟩ ?_)))))))
    exact ⟨vint_eq (idxI_found (p := (fun i => q (xs.getD i cl0))) (by omega) (by assumption) hno).symm, Ext.of_below hB⟩
   ·
    refine r_skip (r_inBlock (r_region' (l_q (q_add rfl rfl (by omega) rfl) (l_q (qmi rfl rfl) (l_nil (r_forget [(0, .slice _ _ _), (1, .func _ _ _), (7, .int _ _), (8, .int _ _)] ⟨rfl, rfl, rfl, rfl, trivial⟩ (fun e7 => ?_)))))))
    exact ih1 (k + 1) _ _ ⟨⟨rfl, rfl, rfl, by first | rfl | exact vint_eq (by omega), trivial⟩, (by omega), (fun i hi => by rcases Nat.lt_succ_iff_lt_or_eq.1 hi with h | h; exact hno i h; subst h; assumption), hsz, hB⟩ (by first | omega | (dsimp only; omega))
  ·
   replace hc2 := dlt hc2
   refine r_exit rfl (r_seq (r_region' (l_q (qai rfl rfl) (l_nil (r_ret_ (vs := [.int _ _]) rfl Tryz.func136 rfl (.nil _) ⟨rfl, trivial⟩ ?_)))))
   exact ⟨vint_eq (idxI_none (p := (fun i => q (xs.getD i cl0))) (fun i hi => hno i (by omega))).symm, Ext.of_below hB⟩
theorem containsFunc_cl_ret (a : Option Addr) (c : Nat) (xs : List CL) (g : FuncId) (fst cap : List Value) (q : CL → Bool) (w : World) (hrow : Row w a xs.length c 8 (xs.flatMap CL.enc)) (hin : ∀ args w, (callFunc g args).run Tryz.prog w = .ok (.enter g args) w) (hp : ∀ w', Ext w w' → ∀ x ∈ xs, Ret Tryz.prog g (fst ++ [.agg ⟨CL.enc x⟩] ++ cap) w' (fun r w'' => r = .bool (q x) ∧ Ext w' w'')) (hn : xs.length ≤ 9223372036854775806) : Ret Tryz.prog 94 [.slice a xs.length c, .func (.func g) ⟨fst⟩ ⟨cap⟩] w (fun v w' => v = .bool (xs.any q) ∧ Ext w w') := by
 have hB := Below.refl w.heap.size w
 have hsz : w.heap.size ≤ w.heap.size := Nat.le_refl _
 refine ret_of_runs (args := [_, _]) Tryz.func94 rfl (Nat.le_of_ble_eq_true rfl) (by kernel_rfl) (r_seq (r_region' (l_q (qab rfl rfl) (l_nil (r_seq (r_region' (l_q (qms rfl rfl) (l_q (q_move (v := .func _ _ _) rfl rfl) (l_o (o_call Tryz.call136 rfl (indexFunc_cl_ret _ _ _ _ _ _ _ _ (hrow.below hB) hin hp hn) rfl ?_))))))))))
 rintro _ w1 ⟨rfl, hE1⟩
 replace hB := below_ext hB hE1 hsz
 replace hsz := Nat.le_trans hsz hE1.size
 refine l_q (q_geq rfl rfl rfl) (l_q (qab rfl rfl) (l_nil (r_ret_ (vs := [.bool _]) rfl Tryz.func94 rfl (.nil _) ⟨rfl, trivial⟩ ?_)))
 exact ⟨vbool_eq (by rw [idxI_nonneg, range_any xs cl0 q]), Ext.of_below hB⟩
theorem all1_cl_ret (b : Nat) (g : FuncId) (fst cap : List Value) (q : CL → Bool) (x : CL) (w : World) (hb : Blk w b [.func (.func g) ⟨fst⟩ ⟨cap⟩]) (hin : ∀ args w, (callFunc g args).run Tryz.prog w = .ok (.enter g args) w) (hp : ∀ w', Ext w w' → Ret Tryz.prog g (fst ++ [.agg ⟨CL.enc x⟩] ++ cap) w' (fun r w'' => r = .bool (q x) ∧ Ext w' w'')) : Ret Tryz.prog 95 [.agg ⟨[vint x.x1, vint x.y1, vint x.x2, vint x.y2, vint x.ba, vint x.tp, vint x.fr, vint x.to]⟩, ptr b 0] w (fun v w' => v = .bool (!q x) ∧ Ext w w') := by
 have hbl := hb.lt
 have hB := Below.refl w.heap.size w
 have hsz : w.heap.size ≤ w.heap.size := Nat.le_refl _
 refine ret_of_runs (args := [_, _]) Tryz.func95 rfl (Nat.le_of_ble_eq_true rfl) (by kernel_rfl) (r_seq (r_region' (l_o (o_box rfl rfl rfl ?_))))
 intro b1 w1 hzl1 hzr1 _ hb1 hE1
 have hbs_b1 : w.heap.size ≤ b1 := Nat.le_trans hsz hzl1
 replace hB := below_ext hB hE1 hsz
 replace hsz := Nat.le_trans hsz hE1.size
 refine l_q (qab rfl rfl) (l_nil (r_seq (r_region' (l_q (q_load Tryz.isAgg132 rfl (((hb.below hB (by omega)).has (o := 0) rfl)) rfl) (l_q (q_load_agg (n := 8) Tryz.isAgg103 Tryz.sizeOf103 rfl ((hb1.cells' (cs' := [_, _, _, _, _, _, _, _]) 0 8 rfl)) rfl rfl) (l_o (o_callv (f := g) (fst := fst) (cap := cap) rfl hin rfl (hp _ (Ext.of_below hB)) rfl ?_)))))))
 rintro _ w2 ⟨rfl, hE2⟩
 replace hB := below_ext hB hE2 hsz
 replace hsz := Nat.le_trans hsz hE2.size
 refine l_q (q_not rfl rfl) (l_q (qab rfl rfl) (l_nil (r_ret_ (vs := [.bool _]) rfl Tryz.func95 rfl (.nil _) ⟨rfl, trivial⟩ ?_)))
 exact ⟨rfl, Ext.of_below hB⟩
theorem all_cl_ret (a : Option Addr) (c : Nat) (xs : List CL) (g : FuncId) (fst cap : List Value) (q : CL → Bool) (w : World) (hrow : Row w a xs.length c 8 (xs.flatMap CL.enc)) (hin : ∀ args w, (callFunc g args).run Tryz.prog w = .ok (.enter g args) w) (hp : ∀ w', Ext w w' → ∀ x ∈ xs, Ret Tryz.prog g (fst ++ [.agg ⟨CL.enc x⟩] ++ cap) w' (fun r w'' => r = .bool (q x) ∧ Ext w' w'')) (hn : xs.length ≤ 9223372036854775806) : Ret Tryz.prog 60 [.slice a xs.length c, .func (.func g) ⟨fst⟩ ⟨cap⟩] w (fun v w' => v = .bool (xs.all q) ∧ Ext w w') := by
 have hB := Below.refl w.heap.size w
 have hsz : w.heap.size ≤ w.heap.size := Nat.le_refl _
 refine ret_of_runs (args := [_, _]) Tryz.func60 rfl (Nat.le_of_ble_eq_true rfl) (by kernel_rfl) (r_seq (r_region' (l_o (o_box rfl rfl rfl ?_))))
 intro b1 w1 hzl1 hzr1 _ hb1 hE1
 have hbs_b1 : w.heap.size ≤ b1 := Nat.le_trans hsz hzl1
 replace hB := below_ext hB hE1 hsz
 replace hsz := Nat.le_trans hsz hE1.size
 refine l_q (qab rfl rfl) (l_nil (r_seq (r_region' (l_q (qms rfl rfl) (l_q (q_makeFunc (v := .func _ ⟨[]⟩ ⟨[_]⟩) rfl rfl) (l_o (o_call Tryz.call94 rfl (containsFunc_cl_ret _ _ xs 95 [] [ptr b1 0] (fun x => !q x) _ (hrow.below hB) Tryz.call95 (fun w' hw x hx => all1_cl_ret _ _ _ _ _ _ _ (hb1.ext hw) hin (fun w'' hw'' => hp _ ((Ext.of_below hB).trans (hw.trans hw'')) x hx)) hn) rfl ?_)))))))
 rintro _ w2 ⟨rfl, hE2⟩
 replace hB := below_ext hB hE2 hsz
 replace hsz := Nat.le_trans hsz hE2.size
 refine l_q (q_not rfl rfl) (l_q (qab rfl rfl) (l_nil (r_ret_ (vs := [.bool _]) rfl Tryz.func60 rfl (.nil _) ⟨rfl, trivial⟩ ?_)))
 exact ⟨vbool_eq (by rw [List.all_eq_not_any_not]), Ext.of_below hB⟩
theorem indexFunc_s3_ret (a : Option Addr) (c : Nat) (xs : List S3) (g : FuncId) (fst cap : List Value) (q : S3 → Bool) (w : World) (hrow : Row w a xs.length c 3 (xs.flatMap S3.enc)) (hin : ∀ args w, (callFunc g args).run Tryz.prog w = .ok (.enter g args) w) (hp : ∀ w', Ext w w' → ∀ x ∈ xs, Ret Tryz.prog g (fst ++ [.agg ⟨S3.enc x⟩] ++ cap) w' (fun r w'' => r = .bool (q x) ∧ Ext w' w'')) (hn : xs.length ≤ 9223372036854775806) : Ret Tryz.prog 140 [.slice a xs.length c, .func (.func g) ⟨fst⟩ ⟨cap⟩] w (fun v w' => v = vint (idxI (fun i => q (xs.getD i s30)) xs.length) ∧ Ext w w') := by
 have hB := Below.refl w.heap.size w
 have hsz : w.heap.size ≤ w.heap.size := Nat.le_refl _
 refine ret_of_runs (args := [_, _]) Tryz.func140 rfl (Nat.le_of_ble_eq_true rfl) (by kernel_rfl) (r_seq (r_region' (l_q (qai rfl rfl) (l_nil (r_seq (r_seq (r_region' (l_q (qms rfl rfl) (l_q (q_len rfl Tryz.underlying50 rfl rfl) (l_q (qmi rfl rfl) (l_nil (r_block (r_rounds (α := Nat) (fun k e wl => Knows e [(0, .slice a xs.length c), (1, .func (.func g) ⟨fst⟩ ⟨cap⟩), (7, vint (xs.length : Int)), (8, vint (k : Int))] ∧ (k ≤ xs.length) ∧ (∀ i, i < k → q (xs.getD i s30) = false) ∧ (w.heap.size ≤ wl.heap.size) ∧ (Below w.heap.size w wl)) (fun k => xs.length - k) 0 ?_ ?_)))))))))))))
 ·
  exact ⟨⟨rfl, rfl, rfl, rfl, trivial⟩, (Nat.zero_le _), (fun i hi => absurd hi (Nat.not_lt_zero _)), hsz, hB⟩
 ·
  rintro k el1 wl1 ⟨hkn, hk, hno, hsz, hB⟩ ih1
  obtain ⟨e1, rfl⟩ := knows_env hkn
  refine r_seq (r_region' (l_q (q_lss rfl rfl rfl) (l_nil (r_seq (r_cond rfl (fun hc2 => ?_) (fun hc2 => ?_))))))
  ·
   replace hc2 := dt hc2
   refine r_skip (r_seq (r_block (r_seq (r_region' (l_q (qmi rfl rfl) (l_q (qai rfl rfl) (l_nil (r_seq (r_region' (l_q (q_move (v := .func _ _ _) rfl rfl) (l_q (qms rfl rfl) (l_q (qmi rfl rfl) ?_))))))))))))
   obtain ⟨b3, o3, ha3, hh3⟩ := (hrow.below hB).at (by decide) k (by omega)
   refine l_q (q_indexAddr Tryz.underlying50 Tryz.sizeOf73 rfl ha3 rfl (by omega) rfl) (l_q (q_load_agg (cs := [vint (((xs).getD k s30).e), vint (((xs).getD k s30).n), vint (((xs).getD k s30).u)]) (n := 3) Tryz.isAgg73 Tryz.sizeOf73 rfl ((cells_cast (wide_at S3.len s30 _ _ (by omega)) hh3)) rfl rfl) (l_o (o_callv (f := g) (fst := fst) (cap := cap) rfl hin rfl (hp _ (Ext.of_below hB) _ (getD_lt (d := s30) (i := k) (by omega))) rfl ?_)))
   rintro _ w4 ⟨rfl, hE4⟩
   replace hB := below_ext hB hE4 hsz
   replace hsz := Nat.le_trans hsz hE4.size
   refine l_nil (r_cond rfl (fun hc5 => ?_) (fun hc5 => ?_))
   ·
    refine r_seq (r_region' (l_q (qmi rfl rfl) (l_q (qai rfl rfl) (l_nil (r_forget [(4, .int _ _)] ⟨rfl, trivial⟩ (fun e6 => (r_ret_ (vs := [.int _ _]) rfl Tryz.func140 rfl (.nil _) ⟨rfl, trivial⟩ ?_)))))))
    exact ⟨vint_eq (idxI_found (p := (fun i => q (xs.getD i s30))) (by omega) (by assumption) hno).symm, Ext.of_below hB⟩
   ·
    refine r_skip (r_inBlock (r_region' (l_q (q_add rfl rfl (by omega) rfl) (l_q (qmi rfl rfl) (l_nil (r_forget [(0, .slice _ _ _), (1, .func _ _ _), (7, .int _ _), (8, .int _ _)] ⟨rfl, rfl, rfl, rfl, trivial⟩ (fun e7 => ?_)))))))
    exact ih1 (k + 1) _ _ ⟨⟨rfl, rfl, rfl, by first | rfl | exact vint_eq (by omega), trivial⟩, (by omega), (fun i hi => by rcases Nat.lt_succ_iff_lt_or_eq.1 hi with h | h; exact hno i h; subst h; assumption), hsz, hB⟩ (by first | omega | (dsimp only; omega))
  ·
   replace hc2 := dlt hc2
   refine r_exit rfl (r_seq (r_region' (l_q (qai rfl rfl) (l_nil (r_ret_ (vs := [.int _ _]) rfl Tryz.func140 rfl (.nil _) ⟨rfl, trivial⟩ ?_)))))
   exact ⟨vint_eq (idxI_none (p := (fun i => q (xs.getD i s30))) (fun i hi => hno i (by omega))).symm, Ext.of_below hB⟩
theorem containsFunc_s3_ret (a : Option Addr) (c : Nat) (xs : List S3) (g : FuncId) (fst cap : List Value) (q : S3 → Bool) (w : World) (hrow : Row w a xs.length c 3 (xs.flatMap S3.enc)) (hin : ∀ args w, (callFunc g args).run Tryz.prog w = .ok (.enter g args) w) (hp : ∀ w', Ext w w' → ∀ x ∈ xs, Ret Tryz.prog g (fst ++ [.agg ⟨S3.enc x⟩] ++ cap) w' (fun r w'' => r = .bool (q x) ∧ Ext w' w'')) (hn : xs.length ≤ 9223372036854775806) : Ret Tryz.prog 104 [.slice a xs.length c, .func (.func g) ⟨fst⟩ ⟨cap⟩] w (fun v w' => v = .bool (xs.any q) ∧ Ext w w') := by
 have hB := Below.refl w.heap.size w
 have hsz : w.heap.size ≤ w.heap.size := Nat.le_refl _
 refine ret_of_runs (args := [_, _]) Tryz.func104 rfl (Nat.le_of_ble_eq_true rfl) (by kernel_rfl) (r_seq (r_region' (l_q (qab rfl rfl) (l_nil (r_seq (r_region' (l_q (qms rfl rfl) (l_q (q_move (v := .func _ _ _) rfl rfl) (l_o (o_call Tryz.call140 rfl (indexFunc_s3_ret _ _ _ _ _ _ _ _ (hrow.below hB) hin hp hn) rfl ?_))))))))))
 rintro _ w1 ⟨rfl, hE1⟩
 replace hB := below_ext hB hE1 hsz
 replace hsz := Nat.le_trans hsz hE1.size
 refine l_q (q_geq rfl rfl rfl) (l_q (qab rfl rfl) (l_nil (r_ret_ (vs := [.bool _]) rfl Tryz.func104 rfl (.nil _) ⟨rfl, trivial⟩ ?_)))
 exact ⟨vbool_eq (by rw [idxI_nonneg, range_any xs s30 q]), Ext.of_below hB⟩
theorem all1_s3_ret (b : Nat) (g : FuncId) (fst cap : List Value) (q : S3 → Bool) (x : S3) (w : World) (hb : Blk w b [.func (.func g) ⟨fst⟩ ⟨cap⟩]) (hin : ∀ args w, (callFunc g args).run Tryz.prog w = .ok (.enter g args) w) (hp : ∀ w', Ext w w' → Ret Tryz.prog g (fst ++ [.agg ⟨S3.enc x⟩] ++ cap) w' (fun r w'' => r = .bool (q x) ∧ Ext w' w'')) : Ret Tryz.prog 105 [.agg ⟨[vint x.e, vint x.n, vint x.u]⟩, ptr b 0] w (fun v w' => v = .bool (!q x) ∧ Ext w w') := by
 have hbl := hb.lt
 have hB := Below.refl w.heap.size w
 have hsz : w.heap.size ≤ w.heap.size := Nat.le_refl _
 refine ret_of_runs (args := [_, _]) Tryz.func105 rfl (Nat.le_of_ble_eq_true rfl) (by kernel_rfl) (r_seq (r_region' (l_o (o_box rfl rfl rfl ?_))))
 intro b1 w1 hzl1 hzr1 _ hb1 hE1
 have hbs_b1 : w.heap.size ≤ b1 := Nat.le_trans hsz hzl1
 replace hB := below_ext hB hE1 hsz
 replace hsz := Nat.le_trans hsz hE1.size
 refine l_q (qab rfl rfl) (l_nil (r_seq (r_region' (l_q (q_load Tryz.isAgg141 rfl (((hb.below hB (by omega)).has (o := 0) rfl)) rfl) (l_q (q_load_agg (n := 3) Tryz.isAgg73 Tryz.sizeOf73 rfl ((hb1.cells' (cs' := [_, _, _]) 0 3 rfl)) rfl rfl) (l_o (o_callv (f := g) (fst := fst) (cap := cap) rfl hin rfl (hp _ (Ext.of_below hB)) rfl ?_)))))))
 rintro _ w2 ⟨rfl, hE2⟩
 replace hB := below_ext hB hE2 hsz
 replace hsz := Nat.le_trans hsz hE2.size
 refine l_q (q_not rfl rfl) (l_q (qab rfl rfl) (l_nil (r_ret_ (vs := [.bool _]) rfl Tryz.func105 rfl (.nil _) ⟨rfl, trivial⟩ ?_)))
 exact ⟨rfl, Ext.of_below hB⟩
theorem all_s3_ret (a : Option Addr) (c : Nat) (xs : List S3) (g : FuncId) (fst cap : List Value) (q : S3 → Bool) (w : World) (hrow : Row w a xs.length c 3 (xs.flatMap S3.enc)) (hin : ∀ args w, (callFunc g args).run Tryz.prog w = .ok (.enter g args) w) (hp : ∀ w', Ext w w' → ∀ x ∈ xs, Ret Tryz.prog g (fst ++ [.agg ⟨S3.enc x⟩] ++ cap) w' (fun r w'' => r = .bool (q x) ∧ Ext w' w'')) (hn : xs.length ≤ 9223372036854775806) : Ret Tryz.prog 67 [.slice a xs.length c, .func (.func g) ⟨fst⟩ ⟨cap⟩] w (fun v w' => v = .bool (xs.all q) ∧ Ext w w') := by
 have hB := Below.refl w.heap.size w
 have hsz : w.heap.size ≤ w.heap.size := Nat.le_refl _
 refine ret_of_runs (args := [_, _]) Tryz.func67 rfl (Nat.le_of_ble_eq_true rfl) (by kernel_rfl) (r_seq (r_region' (l_o (o_box rfl rfl rfl ?_))))
 intro b1 w1 hzl1 hzr1 _ hb1 hE1
 have hbs_b1 : w.heap.size ≤ b1 := Nat.le_trans hsz hzl1
 replace hB := below_ext hB hE1 hsz
 replace hsz := Nat.le_trans hsz hE1.size
 refine l_q (qab rfl rfl) (l_nil (r_seq (r_region' (l_q (qms rfl rfl) (l_q (q_makeFunc (v := .func _ ⟨[]⟩ ⟨[_]⟩) rfl rfl) (l_o (o_call Tryz.call104 rfl (containsFunc_s3_ret _ _ xs 105 [] [ptr b1 0] (fun x => !q x) _ (hrow.below hB) Tryz.call105 (fun w' hw x hx => all1_s3_ret _ _ _ _ _ _ _ (hb1.ext hw) hin (fun w'' hw'' => hp _ ((Ext.of_below hB).trans (hw.trans hw'')) x hx)) hn) rfl ?_)))))))
 rintro _ w2 ⟨rfl, hE2⟩
 replace hB := below_ext hB hE2 hsz
 replace hsz := Nat.le_trans hsz hE2.size
 refine l_q (q_not rfl rfl) (l_q (qab rfl rfl) (l_nil (r_ret_ (vs := [.bool _]) rfl Tryz.func67 rfl (.nil _) ⟨rfl, trivial⟩ ?_)))
 exact ⟨vbool_eq (by rw [List.all_eq_not_any_not]), Ext.of_below hB⟩
theorem indexFunc_kv_ret (a : Option Addr) (n c : Nat) (cs : List Value) (g : FuncId) (fst cap : List Value) (p : Nat → Bool) (w : World) (hrow : Row w a n c 1 cs) (hp : PredI Tryz.prog w g fst cap cs p) (hn : n ≤ 9223372036854775806) : Ret Tryz.prog 137 [.slice a n c, .func (.func g) ⟨fst⟩ ⟨cap⟩] w (fun v w' => v = vint (idxI p n) ∧ Ext w w') := by
 have hl : cs.length = n := by have := hrow.1; omega
 have hB := Below.refl w.heap.size w
 have hsz : w.heap.size ≤ w.heap.size := Nat.le_refl _
 refine ret_of_runs (args := [_, _]) Tryz.func137 rfl (Nat.le_of_ble_eq_true rfl) (by kernel_rfl) (r_seq (r_region' (l_q (qai rfl rfl) (l_nil (r_seq (r_seq (r_region' (l_q (qms rfl rfl) (l_q (q_len rfl Tryz.underlying49 rfl rfl) (l_q (qmi rfl rfl) (l_nil (r_block (r_rounds (α := Nat) (fun k e wl => Knows e [(0, .slice a n c), (1, .func (.func g) ⟨fst⟩ ⟨cap⟩), (7, vint (n : Int)), (8, vint (k : Int))] ∧ (k ≤ n) ∧ (∀ i, i < k → p i = false) ∧ (w.heap.size ≤ wl.heap.size) ∧ (Below w.heap.size w wl)) (fun k => n - k) 0 ?_ ?_)))))))))))))
 ·
  exact ⟨⟨rfl, rfl, rfl, rfl, trivial⟩, (Nat.zero_le _), (fun i hi => absurd hi (Nat.not_lt_zero _)), hsz, hB⟩
 ·
  rintro k el1 wl1 ⟨hkn, hk, hno, hsz, hB⟩ ih1
  obtain ⟨e1, rfl⟩ := knows_env hkn
  refine r_seq (r_region' (l_q (q_lss rfl rfl rfl) (l_nil (r_seq (r_cond rfl (fun hc2 => ?_) (fun hc2 => ?_))))))
  ·
   replace hc2 := dt hc2
   refine r_skip (r_seq (r_block (r_seq (r_region' (l_q (qmi rfl rfl) (l_q (qai rfl rfl) (l_nil (r_seq (r_region' (l_q (q_move (v := .func _ _ _) rfl rfl) (l_q (qms rfl rfl) (l_q (qmi rfl rfl) ?_))))))))))))
   obtain ⟨b3, o3, ha3, hh3⟩ := (hrow.below hB).at1r k ((cs).getD k undef) (getD_some (by omega))
   refine l_q (q_indexAddr1 Tryz.underlying49 Tryz.sizeOf85 rfl ha3 rfl (by omega) rfl) (l_q (q_load Tryz.isAgg85 rfl (hh3) rfl) (l_o (o_callv (f := g) (fst := fst) (cap := cap) rfl hp.1 rfl (hp.2 _ (Ext.of_below hB) k _ (getD_some (by omega))) rfl ?_)))
   rintro _ w4 ⟨rfl, hE4⟩
   replace hB := below_ext hB hE4 hsz
   replace hsz := Nat.le_trans hsz hE4.size
   refine l_nil (r_cond rfl (fun hc5 => ?_) (fun hc5 => ?_))
   ·
    refine r_seq (r_region' (l_q (qmi rfl rfl) (l_q (qai rfl rfl) (l_nil (r_forget [(4, .int _ _)] ⟨rfl, trivial⟩ (fun e6 => (r_ret_ (vs := [.int _ _]) rfl Tryz.func137 rfl (.nil _) ⟨rfl, trivial⟩ ?_)))))))
    exact ⟨vint_eq (idxI_found (by omega) (by assumption) hno).symm, Ext.of_below hB⟩
   ·
    refine r_skip (r_inBlock (r_region' (l_q (q_add rfl rfl (by omega) rfl) (l_q (qmi rfl rfl) (l_nil (r_forget [(0, .slice _ _ _), (1, .func _ _ _), (7, .int _ _), (8, .int _ _)] ⟨rfl, rfl, rfl, rfl, trivial⟩ (fun e7 => ?_)))))))
    exact ih1 (k + 1) _ _ ⟨⟨rfl, rfl, rfl, by first | rfl | exact vint_eq (by omega), trivial⟩, (by omega), (fun i hi => by rcases Nat.lt_succ_iff_lt_or_eq.1 hi with h | h; exact hno i h; subst h; assumption), hsz, hB⟩ (by first | omega | (dsimp only; omega))
  ·
   replace hc2 := dlt hc2
   refine r_exit rfl (r_seq (r_region' (l_q (qai rfl rfl) (l_nil (r_ret_ (vs := [.int _ _]) rfl Tryz.func137 rfl (.nil _) ⟨rfl, trivial⟩ ?_)))))
   exact ⟨vint_eq (idxI_none (fun i hi => hno i (by omega))).symm, Ext.of_below hB⟩
theorem containsFunc_kv_ret (a : Option Addr) (n c : Nat) (cs : List Value) (g : FuncId) (fst cap : List Value) (p : Nat → Bool) (w : World) (hrow : Row w a n c 1 cs) (hp : PredI Tryz.prog w g fst cap cs p) (hn : n ≤ 9223372036854775806) : Ret Tryz.prog 96 [.slice a n c, .func (.func g) ⟨fst⟩ ⟨cap⟩] w (fun v w' => v = .bool ((List.range n).any p) ∧ Ext w w') := by
 have hB := Below.refl w.heap.size w
 have hsz : w.heap.size ≤ w.heap.size := Nat.le_refl _
 refine ret_of_runs (args := [_, _]) Tryz.func96 rfl (Nat.le_of_ble_eq_true rfl) (by kernel_rfl) (r_seq (r_region' (l_q (qab rfl rfl) (l_nil (r_seq (r_region' (l_q (qms rfl rfl) (l_q (q_move (v := .func _ _ _) rfl rfl) (l_o (o_call Tryz.call137 rfl (indexFunc_kv_ret _ _ _ _ _ _ _ _ _ (hrow.below hB) (hp.ext (Ext.of_below hB)) hn) rfl ?_))))))))))
 rintro _ w1 ⟨rfl, hE1⟩
 replace hB := below_ext hB hE1 hsz
 replace hsz := Nat.le_trans hsz hE1.size
 refine l_q (q_geq rfl rfl rfl) (l_q (qab rfl rfl) (l_nil (r_ret_ (vs := [.bool _]) rfl Tryz.func96 rfl (.nil _) ⟨rfl, trivial⟩ ?_)))
 exact ⟨vbool_eq (idxI_nonneg p n), Ext.of_below hB⟩
theorem all1_kv_ret (b : Nat) (g : FuncId) (fst cap cs : List Value) (p : Nat → Bool) (i : Nat) (v : Value) (w : World) (hb : Blk w b [.func (.func g) ⟨fst⟩ ⟨cap⟩]) (hp : PredI Tryz.prog w g fst cap cs p) (hv : cs[i]? = some v) : Ret Tryz.prog 97 [v, ptr b 0] w (fun v w' => v = .bool (!p i) ∧ Ext w w') := by
 have hbl := hb.lt
 have hB := Below.refl w.heap.size w
 have hsz : w.heap.size ≤ w.heap.size := Nat.le_refl _
 refine ret_of_runs (args := [_, _]) Tryz.func97 rfl (Nat.le_of_ble_eq_true rfl) (by kernel_rfl) (r_seq (r_region' (l_q (qab rfl rfl) (l_nil (r_seq (r_region' (l_q (q_load Tryz.isAgg133 rfl (((hb.below hB (by omega)).has (o := 0) rfl)) rfl) (l_q (q_move (v := v) rfl rfl) (l_o (o_callv (f := g) (fst := fst) (cap := cap) rfl hp.1 rfl (hp.2 _ (Ext.of_below hB) i _ hv) rfl ?_))))))))))
 rintro _ w1 ⟨rfl, hE1⟩
 replace hB := below_ext hB hE1 hsz
 replace hsz := Nat.le_trans hsz hE1.size
 refine l_q (q_not rfl rfl) (l_q (qab rfl rfl) (l_nil (r_ret_ (vs := [.bool _]) rfl Tryz.func97 rfl (.nil _) ⟨rfl, trivial⟩ ?_)))
 exact ⟨rfl, Ext.of_below hB⟩
theorem all1_kv_pred {w : World} {b : Nat} {g : FuncId} {fst cap cs : List Value} {p : Nat → Bool} (hb : Blk w b [.func (.func g) ⟨fst⟩ ⟨cap⟩]) (hp : PredI Tryz.prog w g fst cap cs p) :
    PredI Tryz.prog w 97 [] [ptr b 0] cs (fun i => !p i) :=
  ⟨Tryz.call97, fun w' hw i v hv => all1_kv_ret _ _ _ _ _ _ _ _ _ (hb.ext hw) (hp.ext hw) hv⟩
theorem all_kv_ret (a : Option Addr) (n c : Nat) (cs : List Value) (g : FuncId) (fst cap : List Value) (p : Nat → Bool) (w : World) (hrow : Row w a n c 1 cs) (hp : PredI Tryz.prog w g fst cap cs p) (hn : n ≤ 9223372036854775806) : Ret Tryz.prog 61 [.slice a n c, .func (.func g) ⟨fst⟩ ⟨cap⟩] w (fun v w' => v = .bool ((List.range n).all p) ∧ Ext w w') := by
 have hB := Below.refl w.heap.size w
 have hsz : w.heap.size ≤ w.heap.size := Nat.le_refl _
 refine ret_of_runs (args := [_, _]) Tryz.func61 rfl (Nat.le_of_ble_eq_true rfl) (by kernel_rfl) (r_seq (r_region' (l_o (o_box rfl rfl rfl ?_))))
 intro b1 w1 hzl1 hzr1 _ hb1 hE1
 have hbs_b1 : w.heap.size ≤ b1 := Nat.le_trans hsz hzl1
 replace hB := below_ext hB hE1 hsz
 replace hsz := Nat.le_trans hsz hE1.size
 refine l_q (qab rfl rfl) (l_nil (r_seq (r_region' (l_q (qms rfl rfl) (l_q (q_makeFunc (v := .func _ ⟨[]⟩ ⟨[_]⟩) rfl rfl) (l_o (o_call Tryz.call96 rfl (containsFunc_kv_ret _ _ _ _ 97 [] [ptr b1 0] (fun i => !p i) _ (hrow.below hB) (all1_kv_pred hb1 (hp.ext (Ext.of_below hB))) hn) rfl ?_)))))))
 rintro _ w2 ⟨rfl, hE2⟩
 replace hB := below_ext hB hE2 hsz
 replace hsz := Nat.le_trans hsz hE2.size
 refine l_q (q_not rfl rfl) (l_q (qab rfl rfl) (l_nil (r_ret_ (vs := [.bool _]) rfl Tryz.func61 rfl (.nil _) ⟨rfl, trivial⟩ ?_)))
 exact ⟨vbool_eq (by rw [List.all_eq_not_any_not]), Ext.of_below hB⟩
theorem all_kv_of {α : Type} {f : α → Value} {xs : List α} (d : α) {q : α → Bool} {w : World} {a : Option Addr} {c : Nat} {g : FuncId} {fst cap : List Value} (hin : ∀ args w, (callFunc g args).run Tryz.prog w = .ok (.enter g args) w)
    (hrow : Row w a xs.length c 1 (xs.map f)) (h : ∀ w', Ext w w' → ∀ x ∈ xs, Ret Tryz.prog g (fst ++ [f x] ++ cap) w' (fun r w'' => r = .bool (q x) ∧ Ext w' w'')) (hn : xs.length ≤ 9223372036854775806) :
    Ret Tryz.prog 61 [.slice a xs.length c, .func (.func g) ⟨fst⟩ ⟨cap⟩] w (fun v w' => v = .bool (xs.all q) ∧ Ext w w') :=
  (all_kv_ret _ _ _ _ _ _ _ _ _ hrow (predI_of d hin h) hn).mono (fun v w' hx => ⟨by rw [hx.1, range_all xs d q], hx.2⟩)
theorem on_ret (a b : Int) (w : World) : Ret Tryz.prog 101 [.agg ⟨[vint a, vint b]⟩] w (fun v w' => v = .bool (decide ((0 ≤ a ∧ a ≤ 100) ∧ 0 ≤ b ∧ b ≤ 100)) ∧ Ext w w') := by
 have hB := Below.refl w.heap.size w
 have hsz : w.heap.size ≤ w.heap.size := Nat.le_refl _
 refine ret_of_runs (args := [_]) Tryz.func101 rfl (Nat.le_of_ble_eq_true rfl) (by kernel_rfl) (r_seq (r_region' (l_o (o_box rfl rfl rfl ?_))))
 intro b1 w1 hzl1 hzr1 _ hb1 hE1
 have hbs_b1 : w.heap.size ≤ b1 := Nat.le_trans hsz hzl1
 replace hB := below_ext hB hE1 hsz
 replace hsz := Nat.le_trans hsz hE1.size
 refine l_q (qab rfl rfl) (l_nil (r_seq (r_region' (l_q ((q_indexAddr_arr1 Tryz.underlying163 Tryz.sizeOf3 rfl rfl (by decide) rfl).cast (ptr0 _ _)) (l_q (q_load Tryz.isAgg3 rfl ((hb1.has (o := 0) rfl)) rfl) (l_o (o_call Tryz.call33 rfl (hwithin_ret _ _ _ _) rfl ?_)))))))
 rintro _ w2 ⟨rfl, rfl⟩
 refine l_q (qmb rfl rfl) (l_part 6 rfl (fun hc3 => ?_) (fun hc3 => ?_))
 ·
  replace hc3 := b2t hc3
  refine l_q ((q_indexAddr_arr1 Tryz.underlying163 Tryz.sizeOf3 rfl rfl (by decide) rfl).cast (ptr0 _ _)) (l_q (q_load Tryz.isAgg3 rfl ((hb1.has (o := 1) rfl)) rfl) (l_o (o_call Tryz.call33 rfl (hwithin_ret _ _ _ _) rfl ?_)))
  rintro _ w4 ⟨rfl, rfl⟩
  refine l_q (q_pick_t (v := .bool _) rfl rfl rfl) (l_q (qab rfl rfl) (l_nil (r_forget [(2, .bool _)] ⟨rfl, trivial⟩ (fun e5 => (r_ret_ (vs := [.bool _]) rfl Tryz.func101 rfl (.nil _) ⟨rfl, trivial⟩ ?_)))))
  exact ⟨vbool_eq (by symm; first | (apply decide_eq_true; omega) | (apply decide_eq_false; omega) | (rw [Bool.eq_iff_iff]; simp <;> omega)), Ext.of_below hB⟩
 ·
  replace hc3 := b2f hc3
  refine l_q (q_skip rfl) (l_q (q_skip rfl) (l_q (q_skip rfl) (l_q (q_pick_f (v := .bool _) rfl rfl rfl) (l_q (qab rfl rfl) (l_nil (r_forget [(2, .bool _)] ⟨rfl, trivial⟩ (fun e6 => (r_ret_ (vs := [.bool _]) rfl Tryz.func101 rfl (.nil _) ⟨rfl, trivial⟩ ?_))))))))
  exact ⟨vbool_eq (by symm; first | (apply decide_eq_true; omega) | (apply decide_eq_false; omega) | (rw [Bool.eq_iff_iff]; simp <;> omega)), Ext.of_below hB⟩
theorem place_ret (s : S4) (w : World) : Ret Tryz.prog 100 [.agg ⟨[vint s.x, vint s.y, vint s.z, vint s.m]⟩] w (fun v w' => v = .agg ⟨[vint s.x, vint s.y]⟩ ∧ Ext w w') := by
 have hB := Below.refl w.heap.size w
 have hsz : w.heap.size ≤ w.heap.size := Nat.le_refl _
 refine ret_of_runs (args := [_]) Tryz.func100 rfl (Nat.le_of_ble_eq_true rfl) (by kernel_rfl) (r_seq (r_region' (l_o (o_box rfl rfl rfl ?_))))
 intro b1 w1 hzl1 hzr1 _ hb1 hE1
 have hbs_b1 : w.heap.size ≤ b1 := Nat.le_trans hsz hzl1
 replace hB := below_ext hB hE1 hsz
 replace hsz := Nat.le_trans hsz hE1.size
 refine l_o (o_alloc Tryz.zeroValue163 rfl rfl ?_)
 intro b2 w2 hzl2 hzr2 _ hb2 hE2
 have hbs_b2 : w.heap.size ≤ b2 := Nat.le_trans hsz hzl2
 replace hB := below_ext hB hE2 hsz
 replace hb1 := hb1.ext hE2
 replace hsz := Nat.le_trans hsz hE2.size
 refine l_nil (r_seq (r_region' (l_q (q_fieldAddr (o' := 0) rfl fld72_0 rfl) (l_q (q_load Tryz.isAgg3 rfl ((hb1.has (o := 0) rfl)) rfl) (l_q (q_fieldAddr (o' := 1) rfl fld72_1 rfl) (l_q (q_load Tryz.isAgg3 rfl ((hb1.has (o := 1) rfl)) rfl) (l_q (q_build (v := .agg ⟨[vint s.x, vint s.y]⟩) (fun w => by kernel_rfl) rfl) (l_o (o_store (vs := [vint s.x, vint s.y]) (cs' := [vint s.x, vint s.y]) Tryz.sizeOf163 rfl rfl rfl rfl hb2 (Nat.le_of_ble_eq_true rfl) rfl rfl ?_)))))))))
 intro w3 hz3 hb2 hG3
 replace hB := below_upd hB hG3 hsz (by omega)
 replace hsz : w.heap.size ≤ w3.heap.size := by rw [hz3]; exact hsz
 refine l_nil (r_ret_ (vs := [.agg _]) rfl Tryz.func100 rfl (.nil _) ⟨⟨_, _, rfl, run_loadVarA Tryz.isAgg163 Tryz.sizeOf163 (hb2.cells' (cs' := [_, _]) 0 2 rfl) rfl⟩, trivial⟩ ?_)
 exact ⟨rfl, Ext.of_below hB⟩
theorem svalid_ret (s : S4) (w : World) : Ret Tryz.prog 63 [.agg ⟨[vint s.x, vint s.y, vint s.z, vint s.m]⟩] w (fun v w' => v = .bool (okSt s) ∧ Ext w w') := by
 have hB := Below.refl w.heap.size w
 have hsz : w.heap.size ≤ w.heap.size := Nat.le_refl _
 refine ret_of_runs (args := [_]) Tryz.func63 rfl (Nat.le_of_ble_eq_true rfl) (by kernel_rfl) (r_seq (r_region' (l_o (o_box rfl rfl rfl ?_))))
 intro b1 w1 hzl1 hzr1 _ hb1 hE1
 have hbs_b1 : w.heap.size ≤ b1 := Nat.le_trans hsz hzl1
 replace hB := below_ext hB hE1 hsz
 replace hsz := Nat.le_trans hsz hE1.size
 refine l_q (qab rfl rfl) (l_nil (r_seq (r_region' (l_q (q_load_agg (n := 4) Tryz.isAgg72 Tryz.sizeOf72 rfl ((hb1.cells' (cs' := [_, _, _, _]) 0 4 rfl)) rfl rfl) (l_o (o_call Tryz.call100 rfl (place_ret s _) rfl ?_))))))
 rintro _ w2 ⟨rfl, hE2⟩
 replace hB := below_ext hB hE2 hsz
 replace hb1 := hb1.ext hE2
 replace hsz := Nat.le_trans hsz hE2.size
 refine l_o (o_call Tryz.call101 rfl (on_ret _ _ _) rfl ?_)
 rintro _ w3 ⟨rfl, hE3⟩
 replace hB := below_ext hB hE3 hsz
 replace hb1 := hb1.ext hE3
 replace hsz := Nat.le_trans hsz hE3.size
 refine l_q (qmb rfl rfl) (l_part 6 rfl (fun hc4 => ?_) (fun hc4 => ?_))
 ·
  replace hc4 := dt hc4
  refine l_q (q_fieldAddr (o' := 2) rfl fld72_2 rfl) (l_q (q_load Tryz.isAgg3 rfl ((hb1.has (o := 2) rfl)) rfl) (l_o (o_call Tryz.call33 rfl (hwithin_ret _ _ _ _) rfl ?_)))
  rintro _ w5 ⟨rfl, rfl⟩
  refine l_q (q_pick_t (v := .bool _) rfl rfl rfl) (l_q (qmb rfl rfl) (l_part 11 rfl (fun hc6 => ?_) (fun hc6 => ?_)))
  ·
   replace hc6 := b2t hc6
   refine l_q (q_fieldAddr (o' := 3) rfl fld72_3 rfl) (l_q (q_load Tryz.isAgg3 rfl ((hb1.has (o := 3) rfl)) rfl) (l_o (o_call Tryz.call33 rfl (hwithin_ret _ _ _ _) rfl ?_)))
   rintro _ w7 ⟨rfl, rfl⟩
   refine l_q (q_pick_t (v := .bool _) rfl rfl rfl) (l_q (qab rfl rfl) (l_nil (r_forget [(2, .bool _)] ⟨rfl, trivial⟩ (fun e8 => (r_ret_ (vs := [.bool _]) rfl Tryz.func63 rfl (.nil _) ⟨rfl, trivial⟩ ?_)))))
   exact ⟨vbool_eq (by symm; unfold okSt; first | (apply decide_eq_true; simp at *; omega) | (apply decide_eq_false; simp at *; omega) | (rw [Bool.eq_iff_iff]; simp at * <;> omega)), Ext.of_below hB⟩
  ·
   replace hc6 := b2f hc6
   refine l_q (q_skip rfl) (l_q (q_skip rfl) (l_q (q_skip rfl) (l_q (q_pick_f (v := .bool _) rfl rfl rfl) (l_q (qab rfl rfl) (l_nil (r_forget [(2, .bool _)] ⟨rfl, trivial⟩ (fun e9 => (r_ret_ (vs := [.bool _]) rfl Tryz.func63 rfl (.nil _) ⟨rfl, trivial⟩ ?_))))))))
   exact ⟨vbool_eq (by symm; unfold okSt; first | (apply decide_eq_true; simp at *; omega) | (apply decide_eq_false; simp at *; omega) | (rw [Bool.eq_iff_iff]; simp at * <;> omega)), Ext.of_below hB⟩
 ·
  replace hc4 := df hc4
  refine l_q (q_skip rfl) (l_q (q_skip rfl) (l_q (q_skip rfl) (l_q (q_pick_f (v := .bool _) rfl rfl rfl) (l_q (qmb rfl rfl) (l_q (q_skip rfl) (l_q (q_skip rfl) (l_q (q_skip rfl) (l_q (q_pick_f (v := .bool _) rfl rfl rfl) (l_q (qab rfl rfl) (l_nil (r_forget [(2, .bool _)] ⟨rfl, trivial⟩ (fun e10 => (r_ret_ (vs := [.bool _]) rfl Tryz.func63 rfl (.nil _) ⟨rfl, trivial⟩ ?_)))))))))))))
  exact ⟨vbool_eq (by symm; unfold okSt; first | (apply decide_eq_true; simp at *; omega) | (apply decide_eq_false; simp at *; omega) | (rw [Bool.eq_iff_iff]; simp at * <;> omega)), Ext.of_below hB⟩
theorem ends_ret (s : WL) (w : World) : Ret Tryz.prog 135 [.agg ⟨[vint s.x1, vint s.y1, vint s.x2, vint s.y2, vint s.ba, vint s.tp]⟩] w (fun v w' => v = .tuple ⟨[.agg ⟨[vint s.x1, vint s.y1]⟩, .agg ⟨[vint s.x2, vint s.y2]⟩]⟩ ∧ Ext w w') := by
 have hB := Below.refl w.heap.size w
 have hsz : w.heap.size ≤ w.heap.size := Nat.le_refl _
 refine ret_of_runs (args := [_]) Tryz.func135 rfl (Nat.le_of_ble_eq_true rfl) (by kernel_rfl) (r_seq (r_region' (l_o (o_box rfl rfl rfl ?_))))
 intro b1 w1 hzl1 hzr1 _ hb1 hE1
 have hbs_b1 : w.heap.size ≤ b1 := Nat.le_trans hsz hzl1
 replace hB := below_ext hB hE1 hsz
 replace hsz := Nat.le_trans hsz hE1.size
 refine l_o (o_alloc Tryz.zeroValue163 rfl rfl ?_)
 intro b2 w2 hzl2 hzr2 _ hb2 hE2
 have hne_b1_b2 : b1 ≠ b2 := by have := hb1.lt; omega
 have hbs_b2 : w.heap.size ≤ b2 := Nat.le_trans hsz hzl2
 replace hB := below_ext hB hE2 hsz
 replace hb1 := hb1.ext hE2
 replace hsz := Nat.le_trans hsz hE2.size
 refine l_o (o_alloc Tryz.zeroValue163 rfl rfl ?_)
 intro b3 w3 hzl3 hzr3 _ hb3 hE3
 have hne_b1_b3 : b1 ≠ b3 := by have := hb1.lt; omega
 have hne_b2_b3 : b2 ≠ b3 := by have := hb2.lt; omega
 have hbs_b3 : w.heap.size ≤ b3 := Nat.le_trans hsz hzl3
 replace hB := below_ext hB hE3 hsz
 replace hb1 := hb1.ext hE3
 replace hb2 := hb2.ext hE3
 replace hsz := Nat.le_trans hsz hE3.size
 refine l_nil (r_seq (r_draw (Cls := fun w1 w2 => (Blk w1 b1 [vint s.x1, vint s.y1, vint s.x2, vint s.y2, vint s.ba, vint s.tp] → Blk w2 b1 [vint s.x1, vint s.y1, vint s.x2, vint s.y2, vint s.ba, vint s.tp])) (fun w => (fun h => h)) (fun a b c h1 h2 => (fun h => h2 (h1 h))) [0, 1, 2, 3, 4, 5, 6, 7, 8, 9, 10, 11] [10, 11, 1011] 14 (by kernel_rfl) (by kernel_rfl) ?_))
 intro w4 _ hE4
 replace hB := below_ext hB hE4 hsz
 replace hb1 := hb1.ext hE4
 replace hb2 := hb2.ext hE4
 replace hb3 := hb3.ext hE4
 replace hsz := Nat.le_trans hsz hE4.size
 refine m_q rfl rfl (fun w' hC' => q_fieldAddr (o' := 0) rfl fld83_0 rfl) (m_q rfl rfl (fun w' hC' => q_load Tryz.isAgg3 rfl (((hC' hb1).has (o := 0) rfl)) rfl) (m_q rfl rfl (fun w' hC' => q_fieldAddr (o' := 1) rfl fld83_1 rfl) (m_q rfl rfl (fun w' hC' => q_load Tryz.isAgg3 rfl (((hC' hb1).has (o := 1) rfl)) rfl) (m_q rfl rfl (fun w' hC' => q_build (v := .agg ⟨[vint s.x1, vint s.y1]⟩) (fun w => by kernel_rfl) rfl) (m_q rfl rfl (fun w' hC' => q_fieldAddr (o' := 2) rfl fld83_2 rfl) (m_q rfl rfl (fun w' hC' => q_load Tryz.isAgg3 rfl (((hC' hb1).has (o := 2) rfl)) rfl) (m_q rfl rfl (fun w' hC' => q_fieldAddr (o' := 3) rfl fld83_3 rfl) (m_q rfl rfl (fun w' hC' => q_load Tryz.isAgg3 rfl (((hC' hb1).has (o := 3) rfl)) rfl) (m_q rfl rfl (fun w' hC' => q_build (v := .agg ⟨[vint s.x2, vint s.y2]⟩) (fun w => by kernel_rfl) rfl) ?_)))))))))
 refine m_o rfl rfl (o_store (vs := [vint s.x1, vint s.y1]) (cs' := [vint s.x1, vint s.y1]) Tryz.sizeOf163 rfl rfl rfl rfl hb2 (Nat.le_of_ble_eq_true rfl) rfl rfl ?_)
 intro w5 hz5 hb2 hG5
 refine ⟨(fun h => h.upd hG5 (by omega)), ?_⟩
 replace hB := below_upd hB hG5 hsz (by omega)
 replace hsz : w.heap.size ≤ w5.heap.size := by rw [hz5]; exact hsz
 replace hb3 := hb3.upd hG5 (by omega)
 refine m_last rfl rfl rfl (o_store (vs := [vint s.x2, vint s.y2]) (cs' := [vint s.x2, vint s.y2]) Tryz.sizeOf163 rfl rfl rfl rfl hb3 (Nat.le_of_ble_eq_true rfl) rfl rfl ?_)
 intro w6 hz6 hb3 hG6
 replace hB := below_upd hB hG6 hsz (by omega)
 replace hsz : w.heap.size ≤ w6.heap.size := by rw [hz6]; exact hsz
 replace hb2 := hb2.upd hG6 (by omega)
 refine m_nil (r_forget [(2, .pointer _), (3, .pointer _)] ⟨rfl, rfl, trivial⟩ (fun e7 => (r_ret_ (vs := [.agg _, .agg _]) rfl Tryz.func135 rfl (.nil _) ⟨⟨_, _, rfl, run_loadVarA Tryz.isAgg163 Tryz.sizeOf163 (hb2.cells' (cs' := [_, _]) 0 2 rfl) rfl⟩, ⟨_, _, rfl, run_loadVarA Tryz.isAgg163 Tryz.sizeOf163 (hb3.cells' (cs' := [_, _]) 0 2 rfl) rfl⟩, trivial⟩ ?_)))
 exact ⟨rfl, Ext.of_below hB⟩
theorem wvalid_ret (s : WL) (w : World) : Ret Tryz.prog 93 [.agg ⟨[vint s.x1, vint s.y1, vint s.x2, vint s.y2, vint s.ba, vint s.tp]⟩] w (fun v w' => v = .bool (okWl s) ∧ Ext w w') := by
 have hB := Below.refl w.heap.size w
 have hsz : w.heap.size ≤ w.heap.size := Nat.le_refl _
 refine ret_of_runs (args := [_]) Tryz.func93 rfl (Nat.le_of_ble_eq_true rfl) (by kernel_rfl) (r_seq (r_region' (l_o (o_box rfl rfl rfl ?_))))
 intro b1 w1 hzl1 hzr1 _ hb1 hE1
 have hbs_b1 : w.heap.size ≤ b1 := Nat.le_trans hsz hzl1
 replace hB := below_ext hB hE1 hsz
 replace hsz := Nat.le_trans hsz hE1.size
 refine l_q (qab rfl rfl) (l_nil (r_seq (r_region' (l_q (q_load_agg (n := 6) Tryz.isAgg83 Tryz.sizeOf83 rfl ((hb1.cells' (cs' := [_, _, _, _, _, _]) 0 6 rfl)) rfl rfl) (l_o (o_call Tryz.call135 rfl (ends_ret s _) rfl ?_))))))
 rintro _ w2 ⟨rfl, hE2⟩
 replace hB := below_ext hB hE2 hsz
 replace hb1 := hb1.ext hE2
 replace hsz := Nat.le_trans hsz hE2.size
 refine l_q (q_move (v := .tuple _) rfl rfl) (l_q (q_extract (vs := [_, _]) (v := .agg _) rfl rfl rfl) (l_q (q_extract (vs := [_, _]) (v := .agg _) rfl rfl rfl) (l_o (o_alloc Tryz.zeroValue163 rfl rfl ?_))))
 intro b3 w3 hzl3 hzr3 _ hb3 hE3
 have hne_b1_b3 : b1 ≠ b3 := by have := hb1.lt; omega
 have hbs_b3 : w.heap.size ≤ b3 := Nat.le_trans hsz hzl3
 replace hB := below_ext hB hE3 hsz
 replace hb1 := hb1.ext hE3
 replace hsz := Nat.le_trans hsz hE3.size
 refine l_o (o_alloc Tryz.zeroValue163 rfl rfl ?_)
 intro b4 w4 hzl4 hzr4 _ hb4 hE4
 have hne_b1_b4 : b1 ≠ b4 := by have := hb1.lt; omega
 have hne_b3_b4 : b3 ≠ b4 := by have := hb3.lt; omega
 have hbs_b4 : w.heap.size ≤ b4 := Nat.le_trans hsz hzl4
 replace hB := below_ext hB hE4 hsz
 replace hb1 := hb1.ext hE4
 replace hb3 := hb3.ext hE4
 replace hsz := Nat.le_trans hsz hE4.size
 refine l_o (o_store (vs := [vint s.x1, vint s.y1]) (cs' := [vint s.x1, vint s.y1]) Tryz.sizeOf163 rfl rfl rfl rfl hb3 (Nat.le_of_ble_eq_true rfl) rfl rfl ?_)
 intro w5 hz5 hb3 hG5
 replace hB := below_upd hB hG5 hsz (by omega)
 replace hsz : w.heap.size ≤ w5.heap.size := by rw [hz5]; exact hsz
 replace hb1 := hb1.upd hG5 (by omega)
 replace hb4 := hb4.upd hG5 (by omega)
 refine l_o (o_store (vs := [vint s.x2, vint s.y2]) (cs' := [vint s.x2, vint s.y2]) Tryz.sizeOf163 rfl rfl rfl rfl hb4 (Nat.le_of_ble_eq_true rfl) rfl rfl ?_)
 intro w6 hz6 hb4 hG6
 replace hB := below_upd hB hG6 hsz (by omega)
 replace hsz : w.heap.size ≤ w6.heap.size := by rw [hz6]; exact hsz
 replace hb1 := hb1.upd hG6 (by omega)
 replace hb3 := hb3.upd hG6 (by omega)
 refine l_nil (r_seq (r_region' (l_q (q_load_agg (n := 2) Tryz.isAgg163 Tryz.sizeOf163 rfl ((hb3.cells' (cs' := [_, _]) 0 2 rfl)) rfl rfl) (l_o (o_call Tryz.call101 rfl (on_ret _ _ _) rfl ?_)))))
 rintro _ w7 ⟨rfl, hE7⟩
 replace hB := below_ext hB hE7 hsz
 replace hb1 := hb1.ext hE7
 replace hb3 := hb3.ext hE7
 replace hb4 := hb4.ext hE7
 replace hsz := Nat.le_trans hsz hE7.size
 refine l_q (qmb rfl rfl) (l_part 12 rfl (fun hc8 => ?_) (fun hc8 => ?_))
 ·
  replace hc8 := dt hc8
  refine l_q (q_load_agg (n := 2) Tryz.isAgg163 Tryz.sizeOf163 rfl ((hb4.cells' (cs' := [_, _]) 0 2 rfl)) rfl rfl) (l_o (o_call Tryz.call101 rfl (on_ret _ _ _) rfl ?_))
  rintro _ w9 ⟨rfl, hE9⟩
  replace hB := below_ext hB hE9 hsz
  replace hb1 := hb1.ext hE9
  replace hb3 := hb3.ext hE9
  replace hb4 := hb4.ext hE9
  replace hsz := Nat.le_trans hsz hE9.size
  refine l_q (q_pick_t (v := .bool _) rfl rfl rfl) (l_q (qmb rfl rfl) (l_part 16 rfl (fun hc10 => ?_) (fun hc10 => ?_)))
  ·
   replace hc10 := dt hc10
   refine l_q (q_load_agg (n := 2) Tryz.isAgg163 Tryz.sizeOf163 rfl ((hb3.cells' (cs' := [_, _]) 0 2 rfl)) rfl rfl) (l_q (q_load_agg (n := 2) Tryz.isAgg163 Tryz.sizeOf163 rfl ((hb4.cells' (cs' := [_, _]) 0 2 rfl)) rfl rfl) (l_q (q_neq_pl (xs := [s.x1, s.y1]) (ys := [s.x2, s.y2]) Tryz.underlying163 (by kernel_rfl) (by kernel_rfl) Tryz.underlying3 Tryz.isAgg3 (by kernel_rfl) rfl rfl rfl rfl rfl) (l_q (q_pick_t (v := .bool _) rfl rfl rfl) (l_q (qmb rfl rfl) (l_part 21 rfl (fun hc11 => ?_) (fun hc11 => ?_))))))
   ·
    replace hc11 := df (nt hc11)
    refine l_q (q_fieldAddr (o' := 4) rfl fld83_4 rfl) (l_q (q_load Tryz.isAgg3 rfl ((hb1.has (o := 4) rfl)) rfl) (l_q (q_fieldAddr (o' := 5) rfl fld83_5 rfl) (l_q (q_load Tryz.isAgg3 rfl ((hb1.has (o := 5) rfl)) rfl) (l_o (o_call Tryz.call33 rfl (hwithin_ret _ _ _ _) rfl ?_)))))
    rintro _ w12 ⟨rfl, rfl⟩
    refine l_q (q_pick_t (v := .bool _) rfl rfl rfl) (l_q (qmb rfl rfl) (l_part 28 rfl (fun hc13 => ?_) (fun hc13 => ?_)))
    ·
     replace hc13 := b2t hc13
     refine l_q (q_fieldAddr (o' := 5) rfl fld83_5 rfl) (l_q (q_load Tryz.isAgg3 rfl ((hb1.has (o := 5) rfl)) rfl) (l_q (q_leq rfl rfl rfl) (l_q (q_pick_t (v := .bool _) rfl rfl rfl) (l_q (qab rfl rfl) (l_nil (r_forget [(2, .bool _)] ⟨rfl, trivial⟩ (fun e14 => (r_ret_ (vs := [.bool _]) rfl Tryz.func93 rfl (.nil _) ⟨rfl, trivial⟩ ?_))))))))
     exact ⟨vbool_eq (by symm; unfold okWl; first | (apply decide_eq_true; simp at *; omega) | (apply decide_eq_false; simp at *; omega) | (rw [Bool.eq_iff_iff]; simp at * <;> omega)), Ext.of_below hB⟩
    ·
     replace hc13 := b2f hc13
     refine l_q (q_skip rfl) (l_q (q_skip rfl) (l_q (q_skip rfl) (l_q (q_pick_f (v := .bool _) rfl rfl rfl) (l_q (qab rfl rfl) (l_nil (r_forget [(2, .bool _)] ⟨rfl, trivial⟩ (fun e15 => (r_ret_ (vs := [.bool _]) rfl Tryz.func93 rfl (.nil _) ⟨rfl, trivial⟩ ?_))))))))
     exact ⟨vbool_eq (by symm; unfold okWl; first | (apply decide_eq_true; simp at *; omega) | (apply decide_eq_false; simp at *; omega) | (rw [Bool.eq_iff_iff]; simp at * <;> omega)), Ext.of_below hB⟩
   ·
    replace hc11 := dt (nf hc11)
    refine l_q (q_skip rfl) (l_q (q_skip rfl) (l_q (q_skip rfl) (l_q (q_skip rfl) (l_q (q_skip rfl) (l_q (q_pick_f (v := .bool _) rfl rfl rfl) (l_q (qmb rfl rfl) (l_q (q_skip rfl) (l_q (q_skip rfl) (l_q (q_skip rfl) (l_q (q_pick_f (v := .bool _) rfl rfl rfl) (l_q (qab rfl rfl) (l_nil (r_forget [(2, .bool _)] ⟨rfl, trivial⟩ (fun e16 => (r_ret_ (vs := [.bool _]) rfl Tryz.func93 rfl (.nil _) ⟨rfl, trivial⟩ ?_)))))))))))))))
    exact ⟨vbool_eq (by symm; unfold okWl; first | (apply decide_eq_true; simp at *; omega) | (apply decide_eq_false; simp at *; omega) | (rw [Bool.eq_iff_iff]; simp at * <;> omega)), Ext.of_below hB⟩
  ·
   replace hc10 := df hc10
   refine l_q (q_skip rfl) (l_q (q_skip rfl) (l_q (q_skip rfl) (l_q (q_pick_f (v := .bool _) rfl rfl rfl) (l_q (qmb rfl rfl) (l_q (q_skip rfl) (l_q (q_skip rfl) (l_q (q_skip rfl) (l_q (q_skip rfl) (l_q (q_skip rfl) (l_q (q_pick_f (v := .bool _) rfl rfl rfl) (l_q (qmb rfl rfl) (l_q (q_skip rfl) (l_q (q_skip rfl) (l_q (q_skip rfl) (l_q (q_pick_f (v := .bool _) rfl rfl rfl) (l_q (qab rfl rfl) (l_nil (r_forget [(2, .bool _)] ⟨rfl, trivial⟩ (fun e17 => (r_ret_ (vs := [.bool _]) rfl Tryz.func93 rfl (.nil _) ⟨rfl, trivial⟩ ?_))))))))))))))))))))
   exact ⟨vbool_eq (by symm; unfold okWl; first | (apply decide_eq_true; simp at *; omega) | (apply decide_eq_false; simp at *; omega) | (rw [Bool.eq_iff_iff]; simp at * <;> omega)), Ext.of_below hB⟩
 ·
  replace hc8 := df hc8
  refine l_q (q_skip rfl) (l_q (q_skip rfl) (l_q (q_pick_f (v := .bool _) rfl rfl rfl) (l_q (qmb rfl rfl) (l_q (q_skip rfl) (l_q (q_skip rfl) (l_q (q_skip rfl) (l_q (q_pick_f (v := .bool _) rfl rfl rfl) (l_q (qmb rfl rfl) (l_q (q_skip rfl) (l_q (q_skip rfl) (l_q (q_skip rfl) (l_q (q_skip rfl) (l_q (q_skip rfl) (l_q (q_pick_f (v := .bool _) rfl rfl rfl) (l_q (qmb rfl rfl) (l_q (q_skip rfl) (l_q (q_skip rfl) (l_q (q_skip rfl) (l_q (q_pick_f (v := .bool _) rfl rfl rfl) (l_q (qab rfl rfl) (l_nil (r_forget [(2, .bool _)] ⟨rfl, trivial⟩ (fun e18 => (r_ret_ (vs := [.bool _]) rfl Tryz.func93 rfl (.nil _) ⟨rfl, trivial⟩ ?_))))))))))))))))))))))))
  exact ⟨vbool_eq (by symm; unfold okWl; first | (apply decide_eq_true; simp at *; omega) | (apply decide_eq_false; simp at *; omega) | (rw [Bool.eq_iff_iff]; simp at * <;> omega)), Ext.of_below hB⟩
theorem ridge_ret (s : WL) (w : World) : Ret Tryz.prog 66 [.agg ⟨[vint s.x1, vint s.y1, vint s.x2, vint s.y2, vint s.ba, vint s.tp]⟩] w (fun v w' => v = .bool (okRg s) ∧ Ext w w') := by
 have hB := Below.refl w.heap.size w
 have hsz : w.heap.size ≤ w.heap.size := Nat.le_refl _
 refine ret_of_runs (args := [_]) Tryz.func66 rfl (Nat.le_of_ble_eq_true rfl) (by kernel_rfl) (r_seq (r_region' (l_o (o_box rfl rfl rfl ?_))))
 intro b1 w1 hzl1 hzr1 _ hb1 hE1
 have hbs_b1 : w.heap.size ≤ b1 := Nat.le_trans hsz hzl1
 replace hB := below_ext hB hE1 hsz
 replace hsz := Nat.le_trans hsz hE1.size
 refine l_q (qab rfl rfl) (l_nil (r_seq (r_region' (l_q (q_load_agg (n := 6) Tryz.isAgg83 Tryz.sizeOf83 rfl ((hb1.cells' (cs' := [_, _, _, _, _, _]) 0 6 rfl)) rfl rfl) (l_o (o_call Tryz.call93 rfl (wvalid_ret ⟨s.x1, s.y1, s.x2, s.y2, s.ba, s.tp⟩ _) rfl ?_))))))
 rintro _ w2 ⟨rfl, hE2⟩
 replace hB := below_ext hB hE2 hsz
 replace hb1 := hb1.ext hE2
 replace hsz := Nat.le_trans hsz hE2.size
 refine l_q (qmb rfl rfl) (l_part 5 rfl (fun hc3 => ?_) (fun hc3 => ?_))
 ·
  have g5 := hc3
  refine l_q (q_fieldAddr (o' := 4) rfl fld83_4 rfl) (l_q (q_load Tryz.isAgg3 rfl ((hb1.has (o := 4) rfl)) rfl) (l_q (q_eql rfl rfl rfl) (l_q (q_pick_t (v := .bool _) rfl rfl rfl) (l_q (qab rfl rfl) (l_nil (r_ret_ (vs := [.bool _]) rfl Tryz.func66 rfl (.nil _) ⟨rfl, trivial⟩ ?_))))))
  exact ⟨vbool_eq (by unfold okRg; first | (rw [show okWl s = true from g5]; rfl) | (rw [show okWl s = false from g5]; rfl)), Ext.of_below hB⟩
 ·
  have g5 := hc3
  refine l_q (q_skip rfl) (l_q (q_skip rfl) (l_q (q_skip rfl) (l_q (q_pick_f (v := .bool _) rfl rfl rfl) (l_q (qab rfl rfl) (l_nil (r_ret_ (vs := [.bool _]) rfl Tryz.func66 rfl (.nil _) ⟨rfl, trivial⟩ ?_))))))
  exact ⟨vbool_eq (by unfold okRg; first | (rw [show okWl s = true from g5]; rfl) | (rw [show okWl s = false from g5]; rfl)), Ext.of_below hB⟩
theorem suv1_ret (n : Int) (w : World) : Ret Tryz.prog 107 [vint n] w (fun v w' => v = .bool (decide (-100 ≤ n) && decide (n ≤ 100)) ∧ w = w') := by
 have hB := Below.refl w.heap.size w
 have hsz : w.heap.size ≤ w.heap.size := Nat.le_refl _
 refine ret_of_runs (args := [_]) Tryz.func107 rfl (Nat.le_of_ble_eq_true rfl) (by kernel_rfl) (r_seq (r_region' (l_q (qab rfl rfl) (l_nil (r_seq (r_region' (l_q (qmi rfl rfl) (l_o (o_call Tryz.call33 rfl (hwithin_ret _ _ _ _) rfl ?_)))))))))
 rintro _ w1 ⟨rfl, rfl⟩
 refine l_q (qab rfl rfl) (l_nil (r_ret_ (vs := [.bool _]) rfl Tryz.func107 rfl (.nil _) ⟨rfl, trivial⟩ ?_))
 exact ⟨rfl, rfl⟩
theorem suvalid_ret (s : S3) (w : World) : Ret Tryz.prog 68 [.agg ⟨[vint s.e, vint s.n, vint s.u]⟩] w (fun v w' => v = .bool (okSu s) ∧ Ext w w') := by
 have hB := Below.refl w.heap.size w
 have hsz : w.heap.size ≤ w.heap.size := Nat.le_refl _
 refine ret_of_runs (args := [_]) Tryz.func68 rfl (Nat.le_of_ble_eq_true rfl) (by kernel_rfl) (r_seq (r_region' (l_o (o_box rfl rfl rfl ?_))))
 intro b1 w1 hzl1 hzr1 _ hb1 hE1
 have hbs_b1 : w.heap.size ≤ b1 := Nat.le_trans hsz hzl1
 replace hB := below_ext hB hE1 hsz
 replace hsz := Nat.le_trans hsz hE1.size
 refine l_q (qab rfl rfl) (l_nil (r_seq (r_region' (l_q (q_fieldAddr (o' := 0) rfl fld73_0 rfl) (l_q (q_load Tryz.isAgg3 rfl ((hb1.has (o := 0) rfl)) rfl) (l_q (q_fieldAddr (o' := 1) rfl fld73_1 rfl) (l_q (q_load Tryz.isAgg3 rfl ((hb1.has (o := 1) rfl)) rfl) (l_q (q_fieldAddr (o' := 2) rfl fld73_2 rfl) (l_q (q_load Tryz.isAgg3 rfl ((hb1.has (o := 2) rfl)) rfl) (l_o (o_buildSlice (el := 3) (cs := [vint s.e, vint s.n, vint s.u]) Tryz.underlying31 el3 (by decide) (by kernel_rfl) rfl (by decide) rfl ?_)))))))))))
 intro b2 w2 hzl2 hzr2 _ hb2 hE2 ho2
 have hbs_b2 : w.heap.size ≤ b2 := Nat.le_trans hsz hzl2
 replace hB := below_ext hB hE2 hsz
 replace hsz := Nat.le_trans hsz hE2.size
 refine l_o (o_call Tryz.call106 rfl (all_hint_of 0 (f := vint) (xs := [s.e, s.n, s.u]) (fst := []) (cap := []) (q := fun n => decide (-100 ≤ n) && decide (n ≤ 100)) Tryz.call107 (Row.of_owns ho2) (fun w' hw x hx => (suv1_ret x w').mono (fun v w2 h => ⟨h.1, h.2 ▸ Ext.refl _⟩)) (by simp)) rfl ?_)
 rintro _ w3 ⟨rfl, hE3⟩
 replace hB := below_ext hB hE3 hsz
 replace hsz := Nat.le_trans hsz hE3.size
 refine l_q (qab rfl rfl) (l_nil (r_forget [(2, .bool _)] ⟨rfl, trivial⟩ (fun e4 => (r_ret_ (vs := [.bool _]) rfl Tryz.func68 rfl (.nil _) ⟨rfl, trivial⟩ ?_))))
 exact ⟨vbool_eq (su_all s), Ext.of_below hB⟩
theorem cloud_ret (sa : Option Addr) (sc : Nat) (sl : List S4) (ra : Option Addr) (rc : Nat) (rl : List WL) (ka : Option Addr) (kc : Nat) (kl : List KV) (ua : Option Addr) (uc : Nat) (ul : List S3) (c : CL) (w : World) : Ret Tryz.prog 57 [.agg ⟨[.slice sa sl.length sc, .slice ra rl.length rc, .slice ka kl.length kc, .slice ua ul.length uc]⟩, .agg ⟨[vint c.x1, vint c.y1, vint c.x2, vint c.y2, vint c.ba, vint c.tp, vint c.fr, vint c.to]⟩] w (fun v w' => v = .bool (okCl ul.length c) ∧ Ext w w') := by
 have hB := Below.refl w.heap.size w
 have hsz : w.heap.size ≤ w.heap.size := Nat.le_refl _
 refine ret_of_runs (args := [_, _]) Tryz.func57 rfl (Nat.le_of_ble_eq_true rfl) (by kernel_rfl) (r_seq (r_region' (l_o (o_box rfl rfl rfl ?_))))
 intro b1 w1 hzl1 hzr1 _ hb1 hE1
 have hbs_b1 : w.heap.size ≤ b1 := Nat.le_trans hsz hzl1
 replace hB := below_ext hB hE1 hsz
 replace hsz := Nat.le_trans hsz hE1.size
 refine l_o (o_box rfl rfl rfl ?_)
 intro b2 w2 hzl2 hzr2 _ hb2 hE2
 have hbs_b2 : w.heap.size ≤ b2 := Nat.le_trans hsz hzl2
 replace hB := below_ext hB hE2 hsz
 replace hb1 := hb1.ext hE2
 replace hsz := Nat.le_trans hsz hE2.size
 refine l_q (qab rfl rfl) (l_nil (r_seq (r_region' (l_q (q_fieldAddr (o' := 0) rfl fld103_0 rfl) (l_q (q_load_agg (n := 6) Tryz.isAgg83 Tryz.sizeOf83 rfl ((hb2.cells' (cs' := [_, _, _, _, _, _]) 0 6 rfl)) rfl rfl) (l_o (o_call Tryz.call93 rfl (wvalid_ret ⟨c.x1, c.y1, c.x2, c.y2, c.ba, c.tp⟩ _) rfl ?_)))))))
 rintro _ w3 ⟨rfl, hE3⟩
 replace hB := below_ext hB hE3 hsz
 replace hb1 := hb1.ext hE3
 replace hb2 := hb2.ext hE3
 replace hsz := Nat.le_trans hsz hE3.size
 refine l_q (qmb rfl rfl) (l_part 8 rfl (fun hc4 => ?_) (fun hc4 => ?_))
 ·
  have g8 := hc4
  refine l_q (q_fieldAddr (o' := 6) rfl fld103_1 rfl) (l_q (q_load Tryz.isAgg3 rfl ((hb2.has (o := 6) rfl)) rfl) (l_q (q_fieldAddr (o' := 7) rfl fld103_2 rfl) (l_q (q_load Tryz.isAgg3 rfl ((hb2.has (o := 7) rfl)) rfl) (l_o (o_call Tryz.call33 rfl (hwithin_ret _ _ _ _) rfl ?_)))))
  rintro _ w5 ⟨rfl, rfl⟩
  refine l_q (q_pick_t (v := .bool _) rfl rfl rfl) (l_q (qmb rfl rfl) (l_part 15 rfl (fun hc6 => ?_) (fun hc6 => ?_)))
  ·
   replace hc6 := b2t hc6
   refine l_q (q_fieldAddr (o' := 7) rfl fld103_2 rfl) (l_q (q_load Tryz.isAgg3 rfl ((hb2.has (o := 7) rfl)) rfl) (l_q (q_fieldAddr (o' := 3) rfl fld52_3 rfl) (l_q (q_load Tryz.isAgg50 rfl ((hb1.has (o := 3) rfl)) rfl) (l_q (q_len rfl Tryz.underlying50 rfl rfl) (l_q (q_lss rfl rfl rfl) (l_q (q_pick_t (v := .bool _) rfl rfl rfl) (l_q (qab rfl rfl) (l_nil (r_forget [(4, .bool _)] ⟨rfl, trivial⟩ (fun e7 => (r_ret_ (vs := [.bool _]) rfl Tryz.func57 rfl (.nil _) ⟨rfl, trivial⟩ ?_)))))))))))
   exact ⟨vbool_eq (by unfold okCl; first | (rw [show okWl c.wl = false from g8]; rfl) | (rw [show okWl c.wl = true from g8, Bool.true_and]; symm; first | (apply decide_eq_true; omega) | (apply decide_eq_false; omega) | (rw [Bool.eq_iff_iff]; simp <;> omega))), Ext.of_below hB⟩
  ·
   replace hc6 := b2f hc6
   refine l_q (q_skip rfl) (l_q (q_skip rfl) (l_q (q_skip rfl) (l_q (q_skip rfl) (l_q (q_skip rfl) (l_q (q_skip rfl) (l_q (q_pick_f (v := .bool _) rfl rfl rfl) (l_q (qab rfl rfl) (l_nil (r_forget [(4, .bool _)] ⟨rfl, trivial⟩ (fun e8 => (r_ret_ (vs := [.bool _]) rfl Tryz.func57 rfl (.nil _) ⟨rfl, trivial⟩ ?_)))))))))))
   exact ⟨vbool_eq (by unfold okCl; first | (rw [show okWl c.wl = false from g8]; rfl) | (rw [show okWl c.wl = true from g8, Bool.true_and]; symm; first | (apply decide_eq_true; omega) | (apply decide_eq_false; omega) | (rw [Bool.eq_iff_iff]; simp <;> omega))), Ext.of_below hB⟩
 ·
  have g8 := hc4
  refine l_q (q_skip rfl) (l_q (q_skip rfl) (l_q (q_skip rfl) (l_q (q_skip rfl) (l_q (q_skip rfl) (l_q (q_pick_f (v := .bool _) rfl rfl rfl) (l_q (qmb rfl rfl) (l_q (q_skip rfl) (l_q (q_skip rfl) (l_q (q_skip rfl) (l_q (q_skip rfl) (l_q (q_skip rfl) (l_q (q_skip rfl) (l_q (q_pick_f (v := .bool _) rfl rfl rfl) (l_q (qab rfl rfl) (l_nil (r_forget [(4, .bool _)] ⟨rfl, trivial⟩ (fun e9 => (r_ret_ (vs := [.bool _]) rfl Tryz.func57 rfl (.nil _) ⟨rfl, trivial⟩ ?_))))))))))))))))))
  exact ⟨vbool_eq (by unfold okCl; first | (rw [show okWl c.wl = false from g8]; rfl) | (rw [show okWl c.wl = true from g8, Bool.true_and]; symm; first | (apply decide_eq_true; omega) | (apply decide_eq_false; omega) | (rw [Bool.eq_iff_iff]; simp <;> omega))), Ext.of_below hB⟩
theorem chk1_ret (k : KV) (w : World) : Ret Tryz.prog 58 [.slice k.a k.xs.length k.c] w (fun v w' => v = .bool (decide ((k.xs.length : Int) ≤ 4)) ∧ w = w') := by
 have hB := Below.refl w.heap.size w
 have hsz : w.heap.size ≤ w.heap.size := Nat.le_refl _
 refine ret_of_runs (args := [_]) Tryz.func58 rfl (Nat.le_of_ble_eq_true rfl) (by kernel_rfl) (r_seq (r_region' (l_q (qab rfl rfl) (l_nil (r_seq (r_region' (l_q (qms rfl rfl) (l_q (q_len rfl Tryz.underlying85 rfl rfl) (l_q (q_leq rfl rfl rfl) (l_q (qab rfl rfl) (l_nil (r_ret_ (vs := [.bool _]) rfl Tryz.func58 rfl (.nil _) ⟨rfl, trivial⟩ ?_))))))))))))
 exact ⟨rfl, rfl⟩
theorem chk2_ret (sa : Option Addr) (sc : Nat) (sl : List S4) (ra : Option Addr) (rc : Nat) (rl : List WL) (ka : Option Addr) (kc : Nat) (kl : List KV) (ua : Option Addr) (uc : Nat) (ul : List S3) (k : KV) (b : Nat) (w : World) (hk : Row w k.a k.xs.length k.c 8 (k.xs.flatMap CL.enc)) (hkl : k.xs.length ≤ 2097152) (hb : Blk w b [.func (.func 57) ⟨[.agg ⟨[.slice sa sl.length sc, .slice ra rl.length rc, .slice ka kl.length kc, .slice ua ul.length uc]⟩]⟩ ⟨[]⟩]) : Ret Tryz.prog 59 [.slice k.a k.xs.length k.c, ptr b 0] w (fun v w' => v = .bool (k.xs.all (okCl ul.length)) ∧ Ext w w') := by
 have hbl := hb.lt
 have hB := Below.refl w.heap.size w
 have hsz : w.heap.size ≤ w.heap.size := Nat.le_refl _
 refine ret_of_runs (args := [_, _]) Tryz.func59 rfl (Nat.le_of_ble_eq_true rfl) (by kernel_rfl) (r_seq (r_region' (l_q (qab rfl rfl) (l_nil (r_seq (r_region' (l_q (qms rfl rfl) (l_q (q_load Tryz.isAgg132 rfl (((hb.below hB (by omega)).has (o := 0) rfl)) rfl) (l_o (o_call Tryz.call60 rfl (all_cl_ret _ _ k.xs 57 [.agg ⟨[.slice sa sl.length sc, .slice ra rl.length rc, .slice ka kl.length kc, .slice ua ul.length uc]⟩] [] (okCl ul.length) _ (hk.below hB) Tryz.call57 (fun w' hw x hx => cloud_ret sa sc sl ra rc rl ka kc kl ua uc ul x _) (by omega)) rfl ?_))))))))))
 rintro _ w1 ⟨rfl, hE1⟩
 replace hB := below_ext hB hE1 hsz
 replace hsz := Nat.le_trans hsz hE1.size
 refine l_q (qab rfl rfl) (l_nil (r_ret_ (vs := [.bool _]) rfl Tryz.func59 rfl (.nil _) ⟨rfl, trivial⟩ ?_))
 exact ⟨rfl, Ext.of_below hB⟩
theorem apart_ret (sa : Option Addr) (sc : Nat) (sl : List S4) (ra : Option Addr) (rc : Nat) (rl : List WL) (ka : Option Addr) (kc : Nat) (kl : List KV) (ua : Option Addr) (uc : Nat) (ul : List S3) (w : World) (hla : LandAt w sa sc sl ra rc rl ka kc kl ua uc ul) (hok : OkL sl rl kl ul) : Ret Tryz.prog 64 [.agg ⟨[.slice sa sl.length sc, .slice ra rl.length rc, .slice ka kl.length kc, .slice ua ul.length uc]⟩] w (fun v w' => v = .bool true ∧ Ext w w') := by
 have hs6 := hok.s6
 have hB := Below.refl w.heap.size w
 have hsz : w.heap.size ≤ w.heap.size := Nat.le_refl _
 refine ret_of_runs (args := [_]) Tryz.func64 rfl (Nat.le_of_ble_eq_true rfl) (by kernel_rfl) (r_seq (r_region' (l_o (o_box rfl rfl rfl ?_))))
 intro b1 w1 hzl1 hzr1 _ hb1 hE1
 have hbs_b1 : w.heap.size ≤ b1 := Nat.le_trans hsz hzl1
 replace hB := below_ext hB hE1 hsz
 replace hsz := Nat.le_trans hsz hE1.size
 refine l_q (qab rfl rfl) (l_nil (r_seq (r_seq (r_region' (l_q (q_fieldAddr (o' := 0) rfl fld52_0 rfl) (l_q (q_load Tryz.isAgg47 rfl ((hb1.has (o := 0) rfl)) rfl) (l_q (q_len rfl Tryz.underlying47 rfl rfl) (l_q (qmi rfl rfl) (l_nil (r_block (r_rounds (α := Nat) (fun i e wl => Knows e [(1, ptr b1 0), (8, .slice sa sl.length sc), (9, vint (sl.length : Int)), (10, vint (i : Int))] ∧ (i ≤ sl.length) ∧ (Blk wl b1 [.slice sa sl.length sc, .slice ra rl.length rc, .slice ka kl.length kc, .slice ua ul.length uc]) ∧ (w.heap.size ≤ wl.heap.size) ∧ (Below w.heap.size w wl)) (fun i => sl.length - i) 0 ?_ ?_)))))))))))
 ·
  exact ⟨⟨rfl, rfl, rfl, rfl, trivial⟩, (Nat.zero_le _), hb1, hsz, hB⟩
 ·
  rintro i el2 wl2 ⟨hkn, hki, hb1, hsz, hB⟩ ih2
  obtain ⟨e2, rfl⟩ := knows_env hkn
  refine r_seq (r_region' (l_q (q_lss rfl rfl rfl) (l_nil (r_seq (r_cond rfl (fun hc3 => ?_) (fun hc3 => ?_))))))
  ·
   replace hc3 := dt hc3
   have his : i < sl.length := by omega
   refine r_skip (r_seq (r_block (r_seq (r_region' (l_q (qmi rfl rfl) ?_)))))
   obtain ⟨b4, o4, ha4, hh4⟩ := (hla.rs.below hB).at (by decide) i (by omega)
   refine l_q (q_indexAddr Tryz.underlying47 Tryz.sizeOf72 rfl ha4 rfl (by omega) rfl) (l_q (q_load_agg (cs := [vint (((sl).getD i s40).x), vint (((sl).getD i s40).y), vint (((sl).getD i s40).z), vint (((sl).getD i s40).m)]) (n := 4) Tryz.isAgg72 Tryz.sizeOf72 rfl ((cells_cast (wide_at S4.len s40 _ _ (by omega)) hh4)) rfl rfl) (l_o (o_alloc Tryz.zeroValue72 rfl rfl ?_)))
   intro b5 w5 hzl5 hzr5 _ hb5 hE5
   have hne_b1_b5 : b1 ≠ b5 := by have := hb1.lt; omega
   have hbs_b5 : w.heap.size ≤ b5 := Nat.le_trans hsz hzl5
   replace hB := below_ext hB hE5 hsz
   replace hb1 := hb1.ext hE5
   replace hsz := Nat.le_trans hsz hE5.size
   refine l_q (qai rfl rfl) (l_o (o_store (vs := [vint (((sl).getD i s40).x), vint (((sl).getD i s40).y), vint (((sl).getD i s40).z), vint (((sl).getD i s40).m)]) (cs' := [vint (((sl).getD i s40).x), vint (((sl).getD i s40).y), vint (((sl).getD i s40).z), vint (((sl).getD i s40).m)]) Tryz.sizeOf72 rfl rfl rfl rfl hb5 (Nat.le_of_ble_eq_true rfl) rfl rfl ?_))
   intro w6 hz6 hb5 hG6
   replace hB := below_upd hB hG6 hsz (by omega)
   replace hsz : w.heap.size ≤ w6.heap.size := by rw [hz6]; exact hsz
   replace hb1 := hb1.upd hG6 (by omega)
   refine l_nil (r_seq ?_)
   have hlt2 : (sl.take i).length = i := by rw [List.length_take]; omega
   refine r_region' (l_q (q_fieldAddr (o' := 0) rfl fld52_0 rfl) (l_q (q_load Tryz.isAgg47 rfl ((hb1.has (o := 0) rfl)) rfl) (l_q (qmi rfl rfl) ?_)))
   obtain ⟨a7, c7, hr7, hv7⟩ := slice_exw_hi S4.len ((i : Int)) hla.rs (by omega)
   refine l_q ((q_slice (lo := 0) (hi := (i : Int)) Tryz.underlying47 Tryz.sizeOf72 rfl rfl rfl (by omega) hla.rs.2.1 rfl).cast hv7) ?_
   simp only [Int.toNat_natCast] at hr7
   refine l_q (q_len rfl Tryz.underlying47 rfl rfl) (l_q (qmi rfl rfl) (l_nil (r_block (r_rounds (α := Nat) (fun j e wl => Knows e [(1, ptr b1 0), (4, ptr b5 0), (8, .slice sa sl.length sc), (9, vint (sl.length : Int)), (10, vint (i : Int)), (18, .slice a7 ((sl.take i).length) c7), (19, vint ((sl.take i).length : Int)), (20, vint (j : Int))] ∧ (j ≤ (sl.take i).length) ∧ (Blk wl b1 [.slice sa sl.length sc, .slice ra rl.length rc, .slice ka kl.length kc, .slice ua ul.length uc]) ∧ (Blk wl b5 [vint (((sl).getD i s40).x), vint (((sl).getD i s40).y), vint (((sl).getD i s40).z), vint (((sl).getD i s40).m)]) ∧ (w.heap.size ≤ wl.heap.size) ∧ (Below w.heap.size w wl)) (fun j => (sl.take i).length - j) 0 ?_ ?_))))
   ·
    exact ⟨⟨rfl, rfl, rfl, rfl, rfl, rfl, rfl, rfl, trivial⟩, (Nat.zero_le _), hb1, hb5, hsz, hB⟩
   ·
    rintro j el8 wl8 ⟨hkn, hkj, hb1, hb5, hsz, hB⟩ ih8
    obtain ⟨e8, rfl⟩ := knows_env hkn
    refine r_seq (r_region' (l_q (q_lss rfl rfl rfl) (l_nil (r_seq (r_cond rfl (fun hc9 => ?_) (fun hc9 => ?_))))))
    ·
     replace hc9 := dt hc9
     have hji : j < i := by omega
     have htk : (sl.take i).getD j s40 = sl.getD j s40 := by rw [List.getD_eq_getElem?_getD, List.getElem?_take, if_pos hji, List.getD_eq_getElem?_getD]
     refine r_skip (r_seq (r_block (r_seq (r_region' ?_))))
     obtain ⟨b10, o10, ha10, hh10⟩ := (hr7.below hB).at (by decide) j (by omega)
     refine l_q (q_indexAddr Tryz.underlying47 Tryz.sizeOf72 rfl ha10 rfl (by omega) rfl) (l_q (q_load_agg (cs := [vint (((sl.take i).getD j s40).x), vint (((sl.take i).getD j s40).y), vint (((sl.take i).getD j s40).z), vint (((sl.take i).getD j s40).m)]) (n := 4) Tryz.isAgg72 Tryz.sizeOf72 rfl ((cells_cast (wide_at S4.len s40 _ _ (by omega)) hh10)) rfl rfl) (l_o (o_alloc Tryz.zeroValue72 rfl rfl ?_)))
     intro b11 w11 hzl11 hzr11 _ hb11 hE11
     have hne_b1_b11 : b1 ≠ b11 := by have := hb1.lt; omega
     have hne_b5_b11 : b5 ≠ b11 := by have := hb5.lt; omega
     have hbs_b11 : w.heap.size ≤ b11 := Nat.le_trans hsz hzl11
     replace hB := below_ext hB hE11 hsz
     replace hb1 := hb1.ext hE11
     replace hb5 := hb5.ext hE11
     replace hsz := Nat.le_trans hsz hE11.size
     refine l_o (o_store (vs := [vint (((sl.take i).getD j s40).x), vint (((sl.take i).getD j s40).y), vint (((sl.take i).getD j s40).z), vint (((sl.take i).getD j s40).m)]) (cs' := [vint (((sl.take i).getD j s40).x), vint (((sl.take i).getD j s40).y), vint (((sl.take i).getD j s40).z), vint (((sl.take i).getD j s40).m)]) Tryz.sizeOf72 rfl rfl rfl rfl hb11 (Nat.le_of_ble_eq_true rfl) rfl rfl ?_)
     intro w12 hz12 hb11 hG12
     replace hB := below_upd hB hG12 hsz (by omega)
     replace hsz : w.heap.size ≤ w12.heap.size := by rw [hz12]; exact hsz
     replace hb1 := hb1.upd hG12 (by omega)
     replace hb5 := hb5.upd hG12 (by omega)
     refine l_nil (r_seq (r_draw ext_refl' ext_trans' [0, 2, 1, 3, 4] [1, 3] 9 (by kernel_rfl) (by kernel_rfl) ?_))
     intro w13 _ hE13
     replace hB := below_ext hB hE13 hsz
     replace hb1 := hb1.ext hE13
     replace hb5 := hb5.ext hE13
     replace hb11 := hb11.ext hE13
     replace hsz := Nat.le_trans hsz hE13.size
     refine m_q rfl rfl (fun w' hC' => q_load_agg (n := 4) Tryz.isAgg72 Tryz.sizeOf72 rfl (((hb11.cells' (cs' := [_, _, _, _]) 0 4 rfl).ext hC')) rfl rfl) (m_q rfl rfl (fun w' hC' => q_load_agg (n := 4) Tryz.isAgg72 Tryz.sizeOf72 rfl (((hb5.cells' (cs' := [_, _, _, _]) 0 4 rfl).ext hC')) rfl rfl) (m_o rfl rfl (o_call Tryz.call100 rfl (place_ret ((sl.take i).getD j s40) _) rfl ?_)))
     rintro _ w14 ⟨rfl, hE14⟩
     refine ⟨hE14, ?_⟩
     replace hB := below_ext hB hE14 hsz
     replace hb1 := hb1.ext hE14
     replace hb5 := hb5.ext hE14
     replace hsz := Nat.le_trans hsz hE14.size
     refine m_o rfl rfl (o_call Tryz.call100 rfl (place_ret ((sl).getD i s40) _) rfl ?_)
     rintro _ w15 ⟨rfl, hE15⟩
     refine ⟨hE15, ?_⟩
     replace hB := below_ext hB hE15 hsz
     replace hb1 := hb1.ext hE15
     replace hb5 := hb5.ext hE15
     replace hsz := Nat.le_trans hsz hE15.size
     refine m_q rfl rfl (fun w' hC' => q_eql_ints' (xs := [((sl.take i).getD j s40).x, ((sl.take i).getD j s40).y]) (ys := [((sl).getD i s40).x, ((sl).getD i s40).y]) Tryz.underlying163 (by kernel_rfl) (by kernel_rfl) Tryz.underlying3 Tryz.isAgg3 (by kernel_rfl) rfl rfl rfl rfl rfl) (m_nil ?_)
     have hk16 : (decide (([((sl.take i).getD j s40).x, ((sl.take i).getD j s40).y] : List Int) = [((sl).getD i s40).x, ((sl).getD i s40).y])) = false := by rw [decide_eq_false_iff_not]; intro h; rw [htk] at h; simp only [List.cons.injEq, and_true] at h; exact hok.ap i his j hji h
     refine r_cond_f ((congrArg Value.bool hk16 : Value.bool _ = _)) (r_skip (r_inBlock (r_region' (l_q (q_add rfl rfl (by omega) rfl) (l_q (qmi rfl rfl) (l_nil (r_forget [(1, .pointer _), (4, .pointer _), (8, .slice _ _ _), (9, .int _ _), (10, .int _ _), (18, .slice _ _ _), (19, .int _ _), (20, .int _ _)] ⟨rfl, rfl, rfl, rfl, rfl, rfl, rfl, rfl, trivial⟩ (fun e17 => ?_))))))))
     exact ih8 (j + 1) _ _ ⟨⟨rfl, rfl, rfl, rfl, rfl, rfl, rfl, by first | rfl | exact vint_eq (by omega), trivial⟩, (by omega), hb1, hb5, hsz, hB⟩ (by first | omega | (dsimp only; omega))
    ·
     replace hc9 := dlt hc9
     refine r_exit rfl (r_inBlock (r_region' (l_q (q_add rfl rfl (by omega) rfl) (l_q (qmi rfl rfl) (l_nil ?_)))))
     exact ih2 (i + 1) _ _ ⟨⟨rfl, rfl, rfl, by first | rfl | exact vint_eq (by omega), trivial⟩, (by omega), hb1, hsz, hB⟩ (by first | omega | (dsimp only; omega))
  ·
   replace hc3 := dlt hc3
   refine r_exit rfl (r_seq (r_region' (l_q (qab rfl rfl) (l_nil (r_ret_ (vs := [.bool _]) rfl Tryz.func64 rfl (.nil _) ⟨rfl, trivial⟩ ?_)))))
   exact ⟨rfl, Ext.of_below hB⟩
theorem checkLand_ret (sa : Option Addr) (sc : Nat) (sl : List S4) (ra : Option Addr) (rc : Nat) (rl : List WL) (ka : Option Addr) (kc : Nat) (kl : List KV) (ua : Option Addr) (uc : Nat) (ul : List S3) (w : World) (hla : LandAt w sa sc sl ra rc rl ka kc kl ua uc ul) (hok : OkL sl rl kl ul) : Ret Tryz.prog 32 [.agg ⟨[.slice sa sl.length sc, .slice ra rl.length rc, .slice ka kl.length kc, .slice ua ul.length uc]⟩] w (fun v w' => v = vint 0 ∧ Ext w w') := by
 have hs6 := hok.s6
 have hr6 := hok.r6
 have hk4 := hok.k4
 have hu12 := hok.u12
 have hs0 := hok.s0
 have hk0 := hok.k0
 have hu0 := hok.u0
 have hB := Below.refl w.heap.size w
 have hsz : w.heap.size ≤ w.heap.size := Nat.le_refl _
 refine ret_of_runs (args := [_]) Tryz.func32 rfl (Nat.le_of_ble_eq_true rfl) (by kernel_rfl) (r_seq (r_region' (l_o (o_boxt rfl rfl rfl ?_))))
 intro b1 w1 hzl1 hzr1 _ hb1 hty_b1 hE1
 have hbs_b1 : w.heap.size ≤ b1 := Nat.le_trans hsz hzl1
 replace hB := below_ext hB hE1 hsz
 replace hsz := Nat.le_trans hsz hE1.size
 refine l_q (qai rfl rfl) (l_nil (r_seq (r_region' (l_q (q_load_agg (n := 4) Tryz.isAgg52 Tryz.sizeOf52 rfl ((hb1.cells' (cs' := [_, _, _, _]) 0 4 rfl)) rfl rfl) (l_q (q_makeFunc (v := .func _ ⟨[_]⟩ ⟨[]⟩) rfl rfl) (l_o (o_alloct Tryz.zeroValue132 rfl rfl ?_)))))))
 intro b2 w2 hzl2 hzr2 _ hb2 hty_b2 hE2
 have hne_b1_b2 : b1 ≠ b2 := by have := hb1.lt; omega
 have hbs_b2 : w.heap.size ≤ b2 := Nat.le_trans hsz hzl2
 replace hB := below_ext hB hE2 hsz
 replace hb1 := hb1.ext hE2
 replace hsz := Nat.le_trans hsz hE2.size
 refine l_o (o_storet (vs := [.func (.func 57) ⟨[.agg ⟨[.slice sa sl.length sc, .slice ra rl.length rc, .slice ka kl.length kc, .slice ua ul.length uc]⟩]⟩ ⟨[]⟩]) (cs' := [.func (.func 57) ⟨[.agg ⟨[.slice sa sl.length sc, .slice ra rl.length rc, .slice ka kl.length kc, .slice ua ul.length uc]⟩]⟩ ⟨[]⟩]) Tryz.sizeOf132 rfl rfl rfl rfl hb2 (Nat.le_of_ble_eq_true rfl) rfl rfl ?_)
 intro w3 hz3 hb2 hT3 hG3
 replace hB := below_upd hB hG3 hsz (by omega)
 replace hsz : w.heap.size ≤ w3.heap.size := by rw [hz3]; exact hsz
 replace hb1 := hb1.upd hG3 (by omega)
 refine l_nil (r_seq (r_region' (l_q (q_assign (v := .func _ _ _) rfl rfl) (l_nil (r_seq (r_region' (l_q (q_makeFunc (v := .func _ ⟨[]⟩ ⟨[_]⟩) rfl rfl) (l_q (q_assign (v := .func _ _ _) rfl rfl) (l_nil (r_seq (r_block (r_seq (r_region' (l_q (q_fieldAddr (o' := 0) rfl fld52_0 rfl) (l_q (q_load Tryz.isAgg47 rfl ((hb1.has (o := 0) rfl)) rfl) (l_q (q_len rfl Tryz.underlying47 rfl rfl) (l_q (q_gtr rfl rfl rfl) (l_q (qmb rfl rfl) ?_))))))))))))))))))
 have hk4 : (decide (6 < (sl.length : Int))) = false := decide_eq_false (by omega)
 refine l_part 14 rfl (fun hx => absurd (hk4.symm.trans hx) (by decide)) (fun _ => (l_q (q_fieldAddr (o' := 1) rfl fld52_1 rfl) (l_q (q_load Tryz.isAgg48 rfl ((hb1.has (o := 1) rfl)) rfl) (l_q (q_len rfl Tryz.underlying48 rfl rfl) (l_q (q_gtr rfl rfl rfl) (l_q (q_pick_f (v := .bool _) rfl rfl rfl) (l_q (qmb rfl rfl) ?_)))))))
 have hk5 : (decide (6 < (rl.length : Int))) = false := decide_eq_false (by omega)
 refine l_part 20 rfl (fun hx => absurd (hk5.symm.trans hx) (by decide)) (fun _ => (l_q (q_fieldAddr (o' := 2) rfl fld52_2 rfl) (l_q (q_load Tryz.isAgg49 rfl ((hb1.has (o := 2) rfl)) rfl) (l_q (q_len rfl Tryz.underlying49 rfl rfl) (l_q (q_gtr rfl rfl rfl) (l_q (q_pick_f (v := .bool _) rfl rfl rfl) (l_q (qmb rfl rfl) ?_)))))))
 have hk6 : (decide (4 < (kl.length : Int))) = false := decide_eq_false (by omega)
 refine l_part 26 rfl (fun hx => absurd (hk6.symm.trans hx) (by decide)) (fun _ => (l_q (q_fieldAddr (o' := 3) rfl fld52_3 rfl) (l_q (q_load Tryz.isAgg50 rfl ((hb1.has (o := 3) rfl)) rfl) (l_q (q_len rfl Tryz.underlying50 rfl rfl) (l_q (q_gtr rfl rfl rfl) (l_q (q_pick_f (v := .bool _) rfl rfl rfl) (l_q (qmb rfl rfl) ?_)))))))
 have hk7 : (decide (12 < (ul.length : Int))) = false := decide_eq_false (by omega)
 refine l_part 32 rfl (fun hx => absurd (hk7.symm.trans hx) (by decide)) (fun _ => (l_q (q_fieldAddr (o' := 2) rfl fld52_2 rfl) (l_q (q_load Tryz.isAgg49 rfl ((hb1.has (o := 2) rfl)) rfl) (l_q (q_move (v := .func _ _ _) rfl rfl) (l_o (o_call Tryz.call61 rfl (all_kv_of kv0 (f := KV.enc) (q := fun k => decide ((k.xs.length : Int) ≤ 4)) Tryz.call58 (hla.rk.below hB) (fun w' hw k hk => (chk1_ret k w').mono (fun v w2 h => ⟨h.1, h.2 ▸ Ext.refl _⟩)) (by omega)) rfl ?_))))))
 rintro _ w8 ⟨rfl, hE8⟩
 replace hB := below_ext hB hE8 hsz
 replace hb1 := hb1.ext hE8
 replace hb2 := hb2.ext hE8
 replace hsz := Nat.le_trans hsz hE8.size
 refine l_q (q_not rfl rfl) (l_q (q_pick_f (v := .bool _) rfl rfl rfl) (l_q (qab rfl rfl) (l_nil (r_forget [(1, .pointer _), (5, .func _ _ _), (9, .bool _)] ⟨rfl, rfl, rfl, trivial⟩ (fun e9 => ?_)))))
 have hk10 : (!(kl.all (fun k => decide ((k.xs.length : Int) ≤ 4)))) = false := by rw [all_ix1 (d := kv0) (fun i hi => decide_eq_true (by have := hok.few i hi; omega))]; rfl
 refine r_cond_f ((congrArg Value.bool hk10 : Value.bool _ = _)) (r_seq (r_region' (l_q (q_fieldAddr (o' := 0) rfl fld52_0 rfl) (l_q (q_load Tryz.isAgg47 rfl ((hb1.has (o := 0) rfl)) rfl) (l_q (q_len rfl Tryz.underlying47 rfl rfl) (l_q (q_eql rfl rfl rfl) (l_q (qmb rfl rfl) ?_)))))))
 have hk11 : (decide ((sl.length : Int) = 0)) = false := decide_eq_false (by omega)
 refine l_part 44 rfl (fun hx => absurd (hk11.symm.trans hx) (by decide)) (fun _ => (l_q (q_fieldAddr (o' := 2) rfl fld52_2 rfl) (l_q (q_load Tryz.isAgg49 rfl ((hb1.has (o := 2) rfl)) rfl) (l_q (q_len rfl Tryz.underlying49 rfl rfl) (l_q (q_eql rfl rfl rfl) (l_q (q_pick_f (v := .bool _) rfl rfl rfl) (l_q (qmb rfl rfl) ?_)))))))
 have hk12 : (decide ((kl.length : Int) = 0)) = false := decide_eq_false (by omega)
 refine l_part 50 rfl (fun hx => absurd (hk12.symm.trans hx) (by decide)) (fun _ => (l_q (q_fieldAddr (o' := 3) rfl fld52_3 rfl) (l_q (q_load Tryz.isAgg50 rfl ((hb1.has (o := 3) rfl)) rfl) (l_q (q_len rfl Tryz.underlying50 rfl rfl) (l_q (q_eql rfl rfl rfl) (l_q (q_pick_f (v := .bool _) rfl rfl rfl) (l_q (qmb rfl rfl) ?_)))))))
 have hk13 : (decide ((ul.length : Int) = 0)) = false := decide_eq_false (by omega)
 refine l_part 56 rfl (fun hx => absurd (hk13.symm.trans hx) (by decide)) (fun _ => (l_q (q_fieldAddr (o' := 0) rfl fld52_0 rfl) (l_q (q_load Tryz.isAgg47 rfl ((hb1.has (o := 0) rfl)) rfl) (l_o (o_call Tryz.call62 rfl (all_s4_ret _ _ sl 63 _ _ okSt _ (hla.rs.below hB) Tryz.call63 (fun w' hw x hx => svalid_ret x _) (by omega)) rfl ?_)))))
 rintro _ w14 ⟨rfl, hE14⟩
 replace hB := below_ext hB hE14 hsz
 replace hb1 := hb1.ext hE14
 replace hb2 := hb2.ext hE14
 replace hsz := Nat.le_trans hsz hE14.size
 refine l_q (q_not rfl rfl) (l_q (q_pick_f (v := .bool _) rfl rfl rfl) (l_q (qmb rfl rfl) ?_))
 have hk15 : (!(sl.all okSt)) = false := by rw [all_ix1 (d := s40) hok.st]; rfl
 refine l_part 62 rfl (fun hx => absurd (hk15.symm.trans hx) (by decide)) (fun _ => (l_q (q_load_agg (n := 4) Tryz.isAgg52 Tryz.sizeOf52 rfl ((hb1.cells' (cs' := [_, _, _, _]) 0 4 rfl)) rfl rfl) (l_o (o_call Tryz.call64 rfl (apart_ret sa sc sl ra rc rl ka kc kl ua uc ul _ (hla.below hB) hok) rfl ?_))))
 rintro _ w16 ⟨rfl, hE16⟩
 replace hB := below_ext hB hE16 hsz
 replace hb1 := hb1.ext hE16
 replace hb2 := hb2.ext hE16
 replace hsz := Nat.le_trans hsz hE16.size
 refine l_q (q_not rfl rfl) (l_q (q_pick_f (v := .bool _) rfl rfl rfl) (l_q (qmb rfl rfl) (l_q (q_fieldAddr (o' := 1) rfl fld52_1 rfl) (l_q (q_load Tryz.isAgg48 rfl ((hb1.has (o := 1) rfl)) rfl) (l_o (o_call Tryz.call65 rfl (all_wl_ret _ _ rl 66 _ _ okRg _ (hla.rr.below hB) Tryz.call66 (fun w' hw x hx => ridge_ret x _) (by omega)) rfl ?_))))))
 rintro _ w17 ⟨rfl, hE17⟩
 replace hB := below_ext hB hE17 hsz
 replace hb1 := hb1.ext hE17
 replace hb2 := hb2.ext hE17
 replace hsz := Nat.le_trans hsz hE17.size
 refine l_q (q_not rfl rfl) (l_q (q_pick_f (v := .bool _) rfl rfl rfl) (l_q (qmb rfl rfl) ?_))
 have hk18 : (!(rl.all okRg)) = false := by rw [all_ix1 (d := wl0) hok.rg]; rfl
 refine l_part 73 rfl (fun hx => absurd (hk18.symm.trans hx) (by decide)) (fun _ => (l_q (q_fieldAddr (o' := 2) rfl fld52_2 rfl) (l_q (q_load Tryz.isAgg49 rfl ((hb1.has (o := 2) rfl)) rfl) (l_q (q_move (v := .func _ _ _) rfl rfl) (l_o (o_call Tryz.call61 rfl (all_kv_of kv0 (f := KV.enc) (q := fun k => k.xs.all (okCl ul.length)) Tryz.call59 (hla.rk.below hB) (fun w' hw k hk => chk2_ret sa sc sl ra rc rl ka kc kl ua uc ul k b2 w' (((hla.rkr.below hB).ext hw) k hk) (few_le hok k hk) (hb2.ext hw)) (by omega)) rfl ?_))))))
 rintro _ w19 ⟨rfl, hE19⟩
 replace hB := below_ext hB hE19 hsz
 replace hb1 := hb1.ext hE19
 replace hsz := Nat.le_trans hsz hE19.size
 refine l_q (q_not rfl rfl) (l_q (q_pick_f (v := .bool _) rfl rfl rfl) (l_q (qmb rfl rfl) ?_))
 have hk20 : (!(kl.all (fun k => k.xs.all (okCl ul.length)))) = false := by rw [all_ix1 (d := kv0) (fun i hi => all_ix1 (d := cl0) (hok.cl i hi))]; rfl
 refine l_part 80 rfl (fun hx => absurd (hk20.symm.trans hx) (by decide)) (fun _ => (l_q (q_fieldAddr (o' := 3) rfl fld52_3 rfl) (l_q (q_load Tryz.isAgg50 rfl ((hb1.has (o := 3) rfl)) rfl) (l_o (o_call Tryz.call67 rfl (all_s3_ret _ _ ul 68 _ _ okSu _ (hla.ru.below hB) Tryz.call68 (fun w' hw x hx => suvalid_ret x _) (by omega)) rfl ?_)))))
 rintro _ w21 ⟨rfl, hE21⟩
 replace hB := below_ext hB hE21 hsz
 replace hsz := Nat.le_trans hsz hE21.size
 refine l_q (q_not rfl rfl) (l_q (q_pick_f (v := .bool _) rfl rfl rfl) (l_q (qab rfl rfl) (l_nil (r_forget [(39, .bool _)] ⟨rfl, trivial⟩ (fun e22 => ?_)))))
 have hk23 : (!(ul.all okSu)) = false := by rw [all_ix1 (d := s30) hok.su]; rfl
 refine r_cond_f ((congrArg Value.bool hk23 : Value.bool _ = _)) (r_skip (r_inBlock (r_seq (r_region' (l_q (qai rfl rfl) (l_nil (r_ret_ (vs := [.int _ _]) rfl Tryz.func32 rfl (.nil _) ⟨rfl, trivial⟩ ?_)))))))
 exact ⟨rfl, Ext.of_below hB⟩
end Go.Proofs.YtbikicakdkbcgacGreat
