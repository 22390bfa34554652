/- Contracts. -/
import Derived.Test.YtbikicakdkbcgabGreatR1
import Derived.Test.YtbikicakdkbcgabGreatGvSpot
set_option linter.unusedVariables false
set_option linter.unusedSimpArgs false
namespace Go.Proofs.YtbikicakdkbcgabGreat
open Go Go.RowKit Go.Gv Go.Fl

/-! ### The oil of a lamp -/
structure NT where
  h : Int
  le : Int
  mo : Int
  lo : Int
  hi : Int
abbrev NT.enc (n : NT) : List Value := [vint n.h, vint n.le, vint n.mo, vint n.lo, vint n.hi]
def nt0 : NT := ⟨0, 0, 0, 0, 0⟩
theorem NT.len (n : NT) : n.enc.length = 5 := rfl
theorem NT.one (n : NT) : n.enc.all Value.oneCell' = true := rfl
def okNight (n : NT) : Bool := decide ((1 ≤ n.h ∧ n.h ≤ 14) ∧ (1 ≤ n.le ∧ n.le ≤ n.mo ∧ n.mo ≤ 4) ∧ 0 ≤ n.lo ∧ n.lo ≤ n.hi ∧ n.hi ≤ 10)
theorem okNight_iff {n : NT} : okNight n = true ↔ (1 ≤ n.h ∧ n.h ≤ 14) ∧ (1 ≤ n.le ∧ n.le ≤ n.mo ∧ n.mo ≤ 4) ∧ 0 ≤ n.lo ∧ n.lo ≤ n.hi ∧ n.hi ≤ 10 := decide_eq_true_iff
structure OkS (cap can s0 s1 : Int) (ns : List NT) : Prop where
  cap1 : 1 ≤ cap ∧ cap ≤ 400
  can1 : 1 ≤ can ∧ can ≤ 200
  st : 0 ≤ s0 ∧ s0 ≤ s1 ∧ s1 ≤ cap
  pos : 0 < ns.length
  six : ns.length ≤ 6
  ok : ∀ n ∈ ns, okNight n = true
instance (cap can s0 s1 : Int) (ns : List NT) : Decidable (OkS cap can s0 s1 ns) :=
  decidable_of_iff ((1 ≤ cap ∧ cap ≤ 400) ∧ (1 ≤ can ∧ can ≤ 200) ∧ (0 ≤ s0 ∧ s0 ≤ s1 ∧ s1 ≤ cap) ∧ 0 < ns.length ∧ ns.length ≤ 6 ∧ ∀ n ∈ ns, okNight n = true)
    ⟨fun ⟨a, b, c, d, e, f⟩ => ⟨a, b, c, d, e, f⟩, fun ⟨a, b, c, d, e, f⟩ => ⟨a, b, c, d, e, f⟩⟩
def faultS (cap can s0 s1 : Int) (ns : List NT) : Int := if 6 < ns.length then 3 else if OkS cap can s0 s1 ns then 0 else 1
section
variable {cap can s0 s1 : Int} {ns : List NT} {cs ws bs : List Int} {k : Nat} {st : Int}
theorem faultS_3 (h : 6 < ns.length) : faultS cap can s0 s1 ns = 3 := if_pos h
theorem faultS_1 (h : ¬ 6 < ns.length) (h2 : ¬ OkS cap can s0 s1 ns) : faultS cap can s0 s1 ns = 1 := by unfold faultS; rw [if_neg h, if_neg h2]
theorem faultS_0 (h2 : OkS cap can s0 s1 ns) : faultS cap can s0 s1 ns = 0 := by unfold faultS; rw [if_neg (by have := h2.six; omega), if_pos h2]
theorem ok_faultS (h : faultS cap can s0 s1 ns = 0) : OkS cap can s0 s1 ns := by
  unfold faultS at h
  split at h
  · cases h
  · split at h
    · assumption
    · cases h
theorem OkS.at (h : OkS cap can s0 s1 ns) (hk : k < ns.length) : (1 ≤ (ns.getD k nt0).h ∧ (ns.getD k nt0).h ≤ 14) ∧ (1 ≤ (ns.getD k nt0).le ∧ (ns.getD k nt0).le ≤ (ns.getD k nt0).mo ∧ (ns.getD k nt0).mo ≤ 4) ∧ 0 ≤ (ns.getD k nt0).lo ∧ (ns.getD k nt0).lo ≤ (ns.getD k nt0).hi ∧ (ns.getD k nt0).hi ≤ 10 := okNight_iff.1 (h.ok _ (getD_lt hk))
/-- cans, wicks and what is burned, for all nights -/
def CansP (ns : List NT) (cs : List Int) : Prop := cs.length = ns.length ∧ ∀ k, k < cs.length → 0 ≤ cs.getD k 0 ∧ cs.getD k 0 ≤ 2
def WicksP (ns : List NT) (ws : List Int) : Prop := ws.length = ns.length ∧ ∀ k, k < ns.length → (ns.getD k nt0).le ≤ ws.getD k 0 ∧ ws.getD k 0 ≤ (ns.getD k nt0).mo
def BurnP (ns : List NT) (bs : List Int) : Prop := bs.length = ns.length ∧ ∀ k, k < ns.length → (ns.getD k nt0).lo ≤ bs.getD k 0 ∧ bs.getD k 0 ≤ (ns.getD k nt0).hi
instance : Decidable (CansP ns cs) := inferInstanceAs (Decidable (_ ∧ ∀ k, k < _ → _))
instance : Decidable (WicksP ns ws) := inferInstanceAs (Decidable (_ ∧ ∀ k, k < _ → _))
instance : Decidable (BurnP ns bs) := inferInstanceAs (Decidable (_ ∧ ∀ k, k < _ → _))
theorem all_ix {α : Type} {q : α → Bool} {d : α} {xs : List α} (h : ∀ k, k < xs.length → q (xs.getD k d) = true) : ∀ x ∈ xs, q x = true := fun x hx => by
  obtain ⟨k, hk, rfl⟩ := List.mem_iff_getElem.1 hx
  have := h k hk
  rwa [List.getD_eq_getElem?_getD, List.getElem?_eq_getElem hk] at this
theorem can_all {q : Int → Bool} (hq : ∀ x, q x = true ↔ 0 ≤ x ∧ x ≤ 2) (hl : cs.length = ns.length) : cs.all q = decide (CansP ns cs) := by
  rw [Bool.eq_iff_iff, List.all_eq_true, decide_eq_true_iff]
  exact ⟨fun h => ⟨hl, fun k hk => (hq _).1 (h _ (getD_lt hk))⟩, fun h => all_ix (d := 0) (fun k hk => (hq _).2 (h.2 k hk))⟩
/-- the oil after an evening, what a night wants, and what is left -/
def fillI (cap can oil c : Int) : Int := min cap (oil + c * can)
def wantI (n : NT) (wk b : Int) : Int := n.h * wk * b
def leftI (cap can : Int) (n : NT) (c wk b oil : Int) : Int := if fillI cap can oil c < wantI n wk b then 0 else fillI cap can oil c - wantI n wk b
def litI (cap can : Int) (n : NT) (c wk b oil : Int) : Bool := !decide (fillI cap can oil c < wantI n wk b)
theorem fill_bnd {oil c : Int} (h : 1 ≤ cap ∧ cap ≤ 400) (h2 : 1 ≤ can ∧ can ≤ 200) (ho : 0 ≤ oil ∧ oil ≤ 400) (hc : 0 ≤ c ∧ c ≤ 2) : 0 ≤ c * can ∧ c * can ≤ 400 ∧ 0 ≤ fillI cap can oil c ∧ fillI cap can oil c ≤ 400 := by
  have h3 : 0 ≤ c * can := Int.mul_nonneg hc.1 (by omega)
  have h4 : c * can ≤ 2 * 200 := Int.mul_le_mul hc.2 h2.2 (by omega) (by omega)
  unfold fillI
  omega
theorem want_bnd {n : NT} {wk b : Int} (h : 1 ≤ n.h ∧ n.h ≤ 14) (hw : 0 ≤ wk ∧ wk ≤ 4) (hb : 0 ≤ b ∧ b ≤ 10) : 0 ≤ n.h * wk ∧ n.h * wk ≤ 56 ∧ 0 ≤ wantI n wk b ∧ wantI n wk b ≤ 560 := by
  have h1 : 0 ≤ n.h * wk := Int.mul_nonneg (by omega) hw.1
  have h2 : n.h * wk ≤ 14 * 4 := Int.mul_le_mul h.2 hw.2 hw.1 (by omega)
  have h3 : 0 ≤ n.h * wk * b := Int.mul_nonneg h1 hb.1
  have h4 : n.h * wk * b ≤ 56 * 10 := Int.mul_le_mul (by omega) hb.2 hb.1 (by omega)
  unfold wantI
  omega
theorem left_bnd {n : NT} {c wk b oil : Int} (h : 0 ≤ fillI cap can oil c ∧ fillI cap can oil c ≤ 400) (h2 : 0 ≤ wantI n wk b) : 0 ≤ leftI cap can n c wk b oil ∧ leftI cap can n c wk b oil ≤ 400 := by
  unfold leftI
  split <;> omega
end

theorem fld43_0 (w : World) (b o : Nat) : (Instr.fieldAt 43 (ptr b o) 0).run Tryz.prog w = .ok (ptr b (o + 0)) w := by
  simp [Instr.fieldAt, run_underlying Tryz.underlying43, fieldPlace, Instr.sureAddr, Tryz.sizeOf3, Addr.add_lit]
theorem fld43_1 (w : World) (b o : Nat) : (Instr.fieldAt 43 (ptr b o) 1).run Tryz.prog w = .ok (ptr b (o + 1)) w := by
  simp [Instr.fieldAt, run_underlying Tryz.underlying43, fieldPlace, Instr.sureAddr, Tryz.sizeOf3, Addr.add_lit]
theorem fld23_0 (w : World) (b o : Nat) : (Instr.fieldAt 23 (ptr b o) 0).run Tryz.prog w = .ok (ptr b (o + 0)) w := by
  simp [Instr.fieldAt, run_underlying Tryz.underlying23, fieldPlace, Instr.sureAddr, Tryz.sizeOf3, Addr.add_lit]
theorem fld23_1 (w : World) (b o : Nat) : (Instr.fieldAt 23 (ptr b o) 1).run Tryz.prog w = .ok (ptr b (o + 1)) w := by
  simp [Instr.fieldAt, run_underlying Tryz.underlying23, fieldPlace, Instr.sureAddr, Tryz.sizeOf3, Addr.add_lit]
theorem fld75_0 (w : World) (b o : Nat) : (Instr.fieldAt 75 (ptr b o) 0).run Tryz.prog w = .ok (ptr b (o + 0)) w := by
  simp [Instr.fieldAt, run_underlying Tryz.underlying75, fieldPlace, Instr.sureAddr, Tryz.sizeOf3, Addr.add_lit]
theorem fld75_1 (w : World) (b o : Nat) : (Instr.fieldAt 75 (ptr b o) 1).run Tryz.prog w = .ok (ptr b (o + 1)) w := by
  simp [Instr.fieldAt, run_underlying Tryz.underlying75, fieldPlace, Instr.sureAddr, Tryz.sizeOf3, Addr.add_lit]
theorem fld75_2 (w : World) (b o : Nat) : (Instr.fieldAt 75 (ptr b o) 2).run Tryz.prog w = .ok (ptr b (o + 2)) w := by
  simp [Instr.fieldAt, run_underlying Tryz.underlying75, fieldPlace, Instr.sureAddr, Tryz.sizeOf3, Addr.add_lit]
theorem fld75_3 (w : World) (b o : Nat) : (Instr.fieldAt 75 (ptr b o) 3).run Tryz.prog w = .ok (ptr b (o + 3)) w := by
  simp [Instr.fieldAt, run_underlying Tryz.underlying75, fieldPlace, Instr.sureAddr, Tryz.sizeOf43, Addr.add_lit]
theorem fld46_3 (w : World) (b o : Nat) : (Instr.fieldAt 46 (ptr b o) 3).run Tryz.prog w = .ok (ptr b (o + 4)) w := by
  simp [Instr.fieldAt, run_underlying Tryz.underlying46, fieldPlace, Instr.sureAddr, Tryz.sizeOf44, Addr.add_lit]
theorem fld46_0 (w : World) (b o : Nat) : (Instr.fieldAt 46 (ptr b o) 0).run Tryz.prog w = .ok (ptr b (o + 0)) w := by
  simp [Instr.fieldAt, run_underlying Tryz.underlying46, fieldPlace, Instr.sureAddr, Tryz.sizeOf3, Addr.add_lit]
theorem fld46_1 (w : World) (b o : Nat) : (Instr.fieldAt 46 (ptr b o) 1).run Tryz.prog w = .ok (ptr b (o + 1)) w := by
  simp [Instr.fieldAt, run_underlying Tryz.underlying46, fieldPlace, Instr.sureAddr, Tryz.sizeOf3, Addr.add_lit]
theorem fld46_2 (w : World) (b o : Nat) : (Instr.fieldAt 46 (ptr b o) 2).run Tryz.prog w = .ok (ptr b (o + 2)) w := by
  simp [Instr.fieldAt, run_underlying Tryz.underlying46, fieldPlace, Instr.sureAddr, Tryz.sizeOf43, Addr.add_lit]
theorem fld26_3 (w : World) (b o : Nat) : (Instr.fieldAt 26 (ptr b o) 3).run Tryz.prog w = .ok (ptr b (o + 4)) w := by
  simp [Instr.fieldAt, run_underlying Tryz.underlying26, fieldPlace, Instr.sureAddr, Tryz.sizeOf24, Addr.add_lit]
theorem fld26_0 (w : World) (b o : Nat) : (Instr.fieldAt 26 (ptr b o) 0).run Tryz.prog w = .ok (ptr b (o + 0)) w := by
  simp [Instr.fieldAt, run_underlying Tryz.underlying26, fieldPlace, Instr.sureAddr, Tryz.sizeOf3, Addr.add_lit]
theorem fld26_1 (w : World) (b o : Nat) : (Instr.fieldAt 26 (ptr b o) 1).run Tryz.prog w = .ok (ptr b (o + 1)) w := by
  simp [Instr.fieldAt, run_underlying Tryz.underlying26, fieldPlace, Instr.sureAddr, Tryz.sizeOf3, Addr.add_lit]
theorem fld26_2 (w : World) (b o : Nat) : (Instr.fieldAt 26 (ptr b o) 2).run Tryz.prog w = .ok (ptr b (o + 2)) w := by
  simp [Instr.fieldAt, run_underlying Tryz.underlying26, fieldPlace, Instr.sureAddr, Tryz.sizeOf23, Addr.add_lit]
theorem fld49_0 (w : World) (b o : Nat) : (Instr.fieldAt 49 (ptr b o) 0).run Tryz.prog w = .ok (ptr b (o + 0)) w := by
  simp [Instr.fieldAt, run_underlying Tryz.underlying49, fieldPlace, Instr.sureAddr, Tryz.sizeOf3, Addr.add_lit]
theorem fld49_1 (w : World) (b o : Nat) : (Instr.fieldAt 49 (ptr b o) 1).run Tryz.prog w = .ok (ptr b (o + 1)) w := by
  simp [Instr.fieldAt, run_underlying Tryz.underlying49, fieldPlace, Instr.sureAddr, Tryz.sizeOf3, Addr.add_lit]
theorem fld49_2 (w : World) (b o : Nat) : (Instr.fieldAt 49 (ptr b o) 2).run Tryz.prog w = .ok (ptr b (o + 2)) w := by
  simp [Instr.fieldAt, run_underlying Tryz.underlying49, fieldPlace, Instr.sureAddr, Tryz.sizeOf3, Addr.add_lit]
theorem fld49_3 (w : World) (b o : Nat) : (Instr.fieldAt 49 (ptr b o) 3).run Tryz.prog w = .ok (ptr b (o + 3)) w := by
  simp [Instr.fieldAt, run_underlying Tryz.underlying49, fieldPlace, Instr.sureAddr, Tryz.sizeOf23, Addr.add_lit]
theorem fld29_0 (w : World) (b o : Nat) : (Instr.fieldAt 29 (ptr b o) 0).run Tryz.prog w = .ok (ptr b (o + 0)) w := by
  simp [Instr.fieldAt, run_underlying Tryz.underlying29, fieldPlace, Instr.sureAddr, Tryz.sizeOf27, Addr.add_lit]
theorem fld29_1 (w : World) (b o : Nat) : (Instr.fieldAt 29 (ptr b o) 1).run Tryz.prog w = .ok (ptr b (o + 1)) w := by
  simp [Instr.fieldAt, run_underlying Tryz.underlying29, fieldPlace, Instr.sureAddr, Tryz.sizeOf27, Addr.add_lit]
theorem fld57_0 (w : World) (b o : Nat) : (Instr.fieldAt 57 (ptr b o) 0).run Tryz.prog w = .ok (ptr b (o + 0)) w := by
  simp [Instr.fieldAt, run_underlying Tryz.underlying57, fieldPlace, Instr.sureAddr, Tryz.sizeOf27, Addr.add_lit]
theorem fld57_1 (w : World) (b o : Nat) : (Instr.fieldAt 57 (ptr b o) 1).run Tryz.prog w = .ok (ptr b (o + 1)) w := by
  simp [Instr.fieldAt, run_underlying Tryz.underlying57, fieldPlace, Instr.sureAddr, Tryz.sizeOf27, Addr.add_lit]
theorem fld58_0 (w : World) (b o : Nat) : (Instr.fieldAt 58 (ptr b o) 0).run Tryz.prog w = .ok (ptr b (o + 0)) w := by
  simp [Instr.fieldAt, run_underlying Tryz.underlying58, fieldPlace, Instr.sureAddr, Tryz.sizeOf3, Addr.add_lit]
theorem fld58_1 (w : World) (b o : Nat) : (Instr.fieldAt 58 (ptr b o) 1).run Tryz.prog w = .ok (ptr b (o + 1)) w := by
  simp [Instr.fieldAt, run_underlying Tryz.underlying58, fieldPlace, Instr.sureAddr, Tryz.sizeOf27, Addr.add_lit]
theorem lwithin_ret (n lo hi : Int) (w : World) : Ret Tryz.prog 50 [vint n, vint lo, vint hi] w (fun v w' => v = .bool (decide (lo ≤ n) && decide (n ≤ hi)) ∧ w = w') := by
 have hB := Below.refl w.heap.size w
 have hsz : w.heap.size ≤ w.heap.size := Nat.le_refl _
 refine ret_of_runs (args := [_, _, _]) Tryz.func50 rfl (Nat.le_of_ble_eq_true rfl) (by kernel_rfl) (r_seq (r_region' (l_q (qab rfl rfl) (l_nil (r_seq (r_region' (l_q (qmi rfl rfl) (l_q (qmi rfl rfl) (l_q (q_leq rfl rfl rfl) (l_q (qmb rfl rfl) (l_part 10 rfl (fun hc1 => ?_) (fun hc1 => ?_))))))))))))
 ·
  replace hc1 := dt hc1
  refine l_q (qmi rfl rfl) (l_q (qmi rfl rfl) (l_q (q_leq rfl rfl rfl) (l_q (q_pick_t (v := .bool _) rfl rfl rfl) (l_q (qab rfl rfl) (l_nil (r_forget [(6, .bool _)] ⟨rfl, trivial⟩ (fun e2 => (r_ret_ (vs := [.bool _]) rfl Tryz.func50 rfl (.nil _) ⟨rfl, trivial⟩ ?_))))))))
  exact ⟨vbool_eq (by simp_all <;> omega), rfl⟩
 ·
  replace hc1 := dle hc1
  refine l_q (q_skip rfl) (l_q (q_skip rfl) (l_q (q_skip rfl) (l_q (q_pick_f (v := .bool _) rfl rfl rfl) (l_q (qab rfl rfl) (l_nil (r_forget [(6, .bool _)] ⟨rfl, trivial⟩ (fun e3 => (r_ret_ (vs := [.bool _]) rfl Tryz.func50 rfl (.nil _) ⟨rfl, trivial⟩ ?_))))))))
  exact ⟨vbool_eq (by simp_all <;> omega), rfl⟩
theorem in8_ret (n lo hi : Int) (w : World) : Ret Tryz.prog 20 [vint n, vint lo, vint hi] w (fun v w' => v = .bool (decide (lo ≤ n) && decide (n ≤ hi)) ∧ w = w') := by
 have hB := Below.refl w.heap.size w
 have hsz : w.heap.size ≤ w.heap.size := Nat.le_refl _
 refine ret_of_runs (args := [_, _, _]) Tryz.func20 rfl (Nat.le_of_ble_eq_true rfl) (by kernel_rfl) (r_seq (r_region' (l_q (qab rfl rfl) (l_nil (r_seq (r_region' (l_q (qmi rfl rfl) (l_q (qmi rfl rfl) (l_q (q_geq rfl rfl rfl) (l_q (qmb rfl rfl) (l_part 10 rfl (fun hc1 => ?_) (fun hc1 => ?_))))))))))))
 ·
  replace hc1 := dt hc1
  refine l_q (qmi rfl rfl) (l_q (qmi rfl rfl) (l_q (q_leq rfl rfl rfl) (l_q (q_pick_t (v := .bool _) rfl rfl rfl) (l_q (qab rfl rfl) (l_nil (r_forget [(6, .bool _)] ⟨rfl, trivial⟩ (fun e2 => (r_ret_ (vs := [.bool _]) rfl Tryz.func20 rfl (.nil _) ⟨rfl, trivial⟩ ?_))))))))
  exact ⟨vbool_eq (by simp_all <;> omega), rfl⟩
 ·
  replace hc1 := dle hc1
  refine l_q (q_skip rfl) (l_q (q_skip rfl) (l_q (q_skip rfl) (l_q (q_pick_f (v := .bool _) rfl rfl rfl) (l_q (qab rfl rfl) (l_nil (r_forget [(6, .bool _)] ⟨rfl, trivial⟩ (fun e3 => (r_ret_ (vs := [.bool _]) rfl Tryz.func20 rfl (.nil _) ⟨rfl, trivial⟩ ?_))))))))
  exact ⟨vbool_eq (by simp_all <;> omega), rfl⟩
theorem all1_lint_ret (b : Nat) (g : FuncId) (fst cap cs : List Value) (p : Nat → Bool) (i : Nat) (v : Value) (w : World) (hb : Blk w b [.func (.func g) ⟨fst⟩ ⟨cap⟩]) (hp : PredI Tryz.prog w g fst cap cs p) (hv : cs[i]? = some v) : Ret Tryz.prog 76 [v, ptr b 0] w (fun v w' => v = .bool (!p i) ∧ Ext w w') := by
 have hbl := hb.lt
 have hB := Below.refl w.heap.size w
 have hsz : w.heap.size ≤ w.heap.size := Nat.le_refl _
 refine ret_of_runs (args := [_, _]) Tryz.func76 rfl (Nat.le_of_ble_eq_true rfl) (by kernel_rfl) (r_seq (r_region' (l_q (qab rfl rfl) (l_nil (r_seq (r_region' (l_q (q_load Tryz.isAgg115 rfl (((hb.below hB (by omega)).has (o := 0) rfl)) rfl) (l_q (q_move (v := v) rfl rfl) (l_o (o_callv (f := g) (fst := fst) (cap := cap) rfl hp.1 rfl (hp.2 _ (Ext.of_below hB) i _ hv) rfl ?_))))))))))
 rintro _ w1 ⟨rfl, hE1⟩
 replace hB := below_ext hB hE1 hsz
 replace hsz := Nat.le_trans hsz hE1.size
 refine l_q (q_not rfl rfl) (l_q (qab rfl rfl) (l_nil (r_ret_ (vs := [.bool _]) rfl Tryz.func76 rfl (.nil _) ⟨rfl, trivial⟩ ?_)))
 exact ⟨rfl, Ext.of_below hB⟩
theorem all1_lint_pred {w : World} {b : Nat} {g : FuncId} {fst cap cs : List Value} {p : Nat → Bool} (hb : Blk w b [.func (.func g) ⟨fst⟩ ⟨cap⟩]) (hp : PredI Tryz.prog w g fst cap cs p) :
    PredI Tryz.prog w 76 [] [ptr b 0] cs (fun i => !p i) :=
  ⟨Tryz.call76, fun w' hw i v hv => all1_lint_ret _ _ _ _ _ _ _ _ _ (hb.ext hw) (hp.ext hw) hv⟩
theorem all_lint_ret (a : Option Addr) (n c : Nat) (cs : List Value) (g : FuncId) (fst cap : List Value) (p : Nat → Bool) (w : World) (hrow : Row w a n c 1 cs) (hp : PredI Tryz.prog w g fst cap cs p) (hn : n ≤ 9223372036854775806) : Ret Tryz.prog 54 [.slice a n c, .func (.func g) ⟨fst⟩ ⟨cap⟩] w (fun v w' => v = .bool ((List.range n).all p) ∧ Ext w w') := by
 have hB := Below.refl w.heap.size w
 have hsz : w.heap.size ≤ w.heap.size := Nat.le_refl _
 refine ret_of_runs (args := [_, _]) Tryz.func54 rfl (Nat.le_of_ble_eq_true rfl) (by kernel_rfl) (r_seq (r_region' (l_o (o_box rfl rfl rfl ?_))))
 intro b1 w1 hzl1 hzr1 _ hb1 hE1
 have hbs_b1 : w.heap.size ≤ b1 := Nat.le_trans hsz hzl1
 replace hB := below_ext hB hE1 hsz
 replace hsz := Nat.le_trans hsz hE1.size
 refine l_q (qab rfl rfl) (l_nil (r_seq (r_region' (l_q (qms rfl rfl) (l_q (q_makeFunc (v := .func _ ⟨[]⟩ ⟨[_]⟩) rfl rfl) (l_o (o_call Tryz.call75 rfl (containsFunc_int_ret _ _ _ _ 76 [] [ptr b1 0] (fun i => !p i) _ (hrow.below hB) (all1_lint_pred hb1 (hp.ext (Ext.of_below hB))) hn) rfl ?_)))))))
 rintro _ w2 ⟨rfl, hE2⟩
 replace hB := below_ext hB hE2 hsz
 replace hsz := Nat.le_trans hsz hE2.size
 refine l_q (q_not rfl rfl) (l_q (qab rfl rfl) (l_nil (r_ret_ (vs := [.bool _]) rfl Tryz.func54 rfl (.nil _) ⟨rfl, trivial⟩ ?_)))
 exact ⟨vbool_eq (by rw [List.all_eq_not_any_not]), Ext.of_below hB⟩
theorem all_lint_of {α : Type} {f : α → Value} {xs : List α} (d : α) {q : α → Bool} {w : World} {a : Option Addr} {c : Nat} {g : FuncId} {fst cap : List Value} (hin : ∀ args w, (callFunc g args).run Tryz.prog w = .ok (.enter g args) w)
    (hrow : Row w a xs.length c 1 (xs.map f)) (h : ∀ w', Ext w w' → ∀ x ∈ xs, Ret Tryz.prog g (fst ++ [f x] ++ cap) w' (fun r w'' => r = .bool (q x) ∧ Ext w' w'')) (hn : xs.length ≤ 9223372036854775806) :
    Ret Tryz.prog 54 [.slice a xs.length c, .func (.func g) ⟨fst⟩ ⟨cap⟩] w (fun v w' => v = .bool (xs.all q) ∧ Ext w w') :=
  (all_lint_ret _ _ _ _ _ _ _ _ _ hrow (predI_of d hin h) hn).mono (fun v w' hx => ⟨by rw [hx.1, range_all xs d q], hx.2⟩)
theorem indexFunc_nt_ret (a : Option Addr) (c : Nat) (xs : List NT) (g : FuncId) (fst cap : List Value) (q : NT → Bool) (w : World) (hrow : Row w a xs.length c 5 (xs.flatMap NT.enc)) (hin : ∀ args w, (callFunc g args).run Tryz.prog w = .ok (.enter g args) w) (hp : ∀ w', Ext w w' → ∀ x ∈ xs, Ret Tryz.prog g (fst ++ [.agg ⟨NT.enc x⟩] ++ cap) w' (fun r w'' => r = .bool (q x) ∧ Ext w' w'')) (hn : xs.length ≤ 9223372036854775806) : Ret Tryz.prog 91 [.slice a xs.length c, .func (.func g) ⟨fst⟩ ⟨cap⟩] w (fun v w' => v = vint (idxI (fun i => q (xs.getD i nt0)) xs.length) ∧ Ext w w') := by
 have hB := Below.refl w.heap.size w
 have hsz : w.heap.size ≤ w.heap.size := Nat.le_refl _
 refine ret_of_runs (args := [_, _]) Tryz.func91 rfl (Nat.le_of_ble_eq_true rfl) (by kernel_rfl) (r_seq (r_region' (l_q (qai rfl rfl) (l_nil (r_seq (r_seq (r_region' (l_q (qms rfl rfl) (l_q (q_len rfl Tryz.underlying44 rfl rfl) (l_q (qmi rfl rfl) (l_nil (r_block (r_rounds (α := Nat) (fun k e wl => Knows e [(0, .slice a xs.length c), (1, .func (.func g) ⟨fst⟩ ⟨cap⟩), (7, vint (xs.length : Int)), (8, vint (k : Int))] ∧ (k ≤ xs.length) ∧ (∀ i, i < k → q (xs.getD i nt0) = false) ∧ (w.heap.size ≤ wl.heap.size) ∧ (Below w.heap.size w wl)) (fun k => xs.length - k) 0 ?_ ?_)))))))))))))
 ·
  exact ⟨⟨rfl, rfl, rfl, rfl, trivial⟩, (Nat.zero_le _), (fun i hi => absurd hi (Nat.not_lt_zero _)), hsz, hB⟩
 ·
  rintro k el1 wl1 ⟨hkn, hk, hno, hsz, hB⟩ ih1
  obtain ⟨e1, rfl⟩ := knows_env hkn
  refine r_seq (r_region' (l_q (q_lss rfl rfl rfl) (l_nil (r_seq (r_cond rfl (fun hc2 => ?_) (fun hc2 => ?_))))))
  ·
   replace hc2 := dt hc2
   refine r_skip (r_seq (r_block (r_seq (r_region' (l_q (qmi rfl rfl) (l_q (qai rfl rfl) (l_nil (r_seq (r_region' (l_q (q_move (v := .func _ _ _) rfl rfl) (l_q (qms rfl rfl) (l_q (qmi rfl rfl) ?_))))))))))))
   obtain ⟨b3, o3, ha3, hh3⟩ := (hrow.below hB).at (by decide) k (by omega)
   refine l_q (q_indexAddr Tryz.underlying44 Tryz.sizeOf75 rfl ha3 rfl (by omega) rfl) (l_q (q_load_agg (cs := [vint (((xs).getD k nt0).h), vint (((xs).getD k nt0).le), vint (((xs).getD k nt0).mo), vint (((xs).getD k nt0).lo), vint (((xs).getD k nt0).hi)]) (n := 5) Tryz.isAgg75 Tryz.sizeOf75 rfl ((cells_cast (wide_at NT.len nt0 _ _ (by omega)) hh3)) rfl rfl) (l_o (o_callv (f := g) (fst := fst) (cap := cap) rfl hin rfl (hp _ (Ext.of_below hB) _ (getD_lt (d := nt0) (i := k) (by omega))) rfl ?_)))
   rintro _ w4 ⟨rfl, hE4⟩
   replace hB := below_ext hB hE4 hsz
   replace hsz := Nat.le_trans hsz hE4.size
   refine l_nil (r_cond rfl (fun hc5 => ?_) (fun hc5 => ?_))
   ·
    refine r_seq (r_region' (l_q (qmi rfl rfl) (l_q (qai rfl rfl) (l_nil (r_forget [(4, .int _ _)] ⟨rfl, trivial⟩ (fun e6 => (r_ret_ (vs := [.int _ _]) rfl Tryz.func91 rfl (.nil _) ⟨rfl, trivial⟩ ?_)))))))
    exact ⟨vint_eq (idxI_found (p := (fun i => q (xs.getD i nt0))) (by omega) (by assumption) hno).symm, Ext.of_below hB⟩
   ·
    refine r_skip (r_inBlock (r_region' (l_q (q_add rfl rfl (by omega) rfl) (l_q (qmi rfl rfl) (l_nil (r_forget [(0, .slice _ _ _), (1, .func _ _ _), (7, .int _ _), (8, .int _ _)] ⟨rfl, rfl, rfl, rfl, trivial⟩ (fun e7 => ?_)))))))
    exact ih1 (k + 1) _ _ ⟨⟨rfl, rfl, rfl, by first | rfl | exact vint_eq (by omega), trivial⟩, (by omega), (fun i hi => by rcases Nat.lt_succ_iff_lt_or_eq.1 hi with h | h; exact hno i h; subst h; assumption), hsz, hB⟩ (by first | omega | (dsimp only; omega))
  ·
   replace hc2 := dlt hc2
   refine r_exit rfl (r_seq (r_region' (l_q (qai rfl rfl) (l_nil (r_ret_ (vs := [.int _ _]) rfl Tryz.func91 rfl (.nil _) ⟨rfl, trivial⟩ ?_)))))
   exact ⟨vint_eq (idxI_none (p := (fun i => q (xs.getD i nt0))) (fun i hi => hno i (by omega))).symm, Ext.of_below hB⟩
theorem containsFunc_nt_ret (a : Option Addr) (c : Nat) (xs : List NT) (g : FuncId) (fst cap : List Value) (q : NT → Bool) (w : World) (hrow : Row w a xs.length c 5 (xs.flatMap NT.enc)) (hin : ∀ args w, (callFunc g args).run Tryz.prog w = .ok (.enter g args) w) (hp : ∀ w', Ext w w' → ∀ x ∈ xs, Ret Tryz.prog g (fst ++ [.agg ⟨NT.enc x⟩] ++ cap) w' (fun r w'' => r = .bool (q x) ∧ Ext w' w'')) (hn : xs.length ≤ 9223372036854775806) : Ret Tryz.prog 73 [.slice a xs.length c, .func (.func g) ⟨fst⟩ ⟨cap⟩] w (fun v w' => v = .bool (xs.any q) ∧ Ext w w') := by
 have hB := Below.refl w.heap.size w
 have hsz : w.heap.size ≤ w.heap.size := Nat.le_refl _
 refine ret_of_runs (args := [_, _]) Tryz.func73 rfl (Nat.le_of_ble_eq_true rfl) (by kernel_rfl) (r_seq (r_region' (l_q (qab rfl rfl) (l_nil (r_seq (r_region' (l_q (qms rfl rfl) (l_q (q_move (v := .func _ _ _) rfl rfl) (l_o (o_call Tryz.call91 rfl (indexFunc_nt_ret _ _ _ _ _ _ _ _ (hrow.below hB) hin hp hn) rfl ?_))))))))))
 rintro _ w1 ⟨rfl, hE1⟩
 replace hB := below_ext hB hE1 hsz
 replace hsz := Nat.le_trans hsz hE1.size
 refine l_q (q_geq rfl rfl rfl) (l_q (qab rfl rfl) (l_nil (r_ret_ (vs := [.bool _]) rfl Tryz.func73 rfl (.nil _) ⟨rfl, trivial⟩ ?_)))
 exact ⟨vbool_eq (by rw [idxI_nonneg, range_any xs nt0 q]), Ext.of_below hB⟩
theorem all1_nt_ret (b : Nat) (g : FuncId) (fst cap : List Value) (q : NT → Bool) (x : NT) (w : World) (hb : Blk w b [.func (.func g) ⟨fst⟩ ⟨cap⟩]) (hin : ∀ args w, (callFunc g args).run Tryz.prog w = .ok (.enter g args) w) (hp : ∀ w', Ext w w' → Ret Tryz.prog g (fst ++ [.agg ⟨NT.enc x⟩] ++ cap) w' (fun r w'' => r = .bool (q x) ∧ Ext w' w'')) : Ret Tryz.prog 74 [.agg ⟨[vint x.h, vint x.le, vint x.mo, vint x.lo, vint x.hi]⟩, ptr b 0] w (fun v w' => v = .bool (!q x) ∧ Ext w w') := by
 have hbl := hb.lt
 have hB := Below.refl w.heap.size w
 have hsz : w.heap.size ≤ w.heap.size := Nat.le_refl _
 refine ret_of_runs (args := [_, _]) Tryz.func74 rfl (Nat.le_of_ble_eq_true rfl) (by kernel_rfl) (r_seq (r_region' (l_o (o_box rfl rfl rfl ?_))))
 intro b1 w1 hzl1 hzr1 _ hb1 hE1
 have hbs_b1 : w.heap.size ≤ b1 := Nat.le_trans hsz hzl1
 replace hB := below_ext hB hE1 hsz
 replace hsz := Nat.le_trans hsz hE1.size
 refine l_q (qab rfl rfl) (l_nil (r_seq (r_region' (l_q (q_load Tryz.isAgg117 rfl (((hb.below hB (by omega)).has (o := 0) rfl)) rfl) (l_q (q_load_agg (n := 5) Tryz.isAgg75 Tryz.sizeOf75 rfl ((hb1.cells' (cs' := [_, _, _, _, _]) 0 5 rfl)) rfl rfl) (l_o (o_callv (f := g) (fst := fst) (cap := cap) rfl hin rfl (hp _ (Ext.of_below hB)) rfl ?_)))))))
 rintro _ w2 ⟨rfl, hE2⟩
 replace hB := below_ext hB hE2 hsz
 replace hsz := Nat.le_trans hsz hE2.size
 refine l_q (q_not rfl rfl) (l_q (qab rfl rfl) (l_nil (r_ret_ (vs := [.bool _]) rfl Tryz.func74 rfl (.nil _) ⟨rfl, trivial⟩ ?_)))
 exact ⟨rfl, Ext.of_below hB⟩
theorem all_nt_ret (a : Option Addr) (c : Nat) (xs : List NT) (g : FuncId) (fst cap : List Value) (q : NT → Bool) (w : World) (hrow : Row w a xs.length c 5 (xs.flatMap NT.enc)) (hin : ∀ args w, (callFunc g args).run Tryz.prog w = .ok (.enter g args) w) (hp : ∀ w', Ext w w' → ∀ x ∈ xs, Ret Tryz.prog g (fst ++ [.agg ⟨NT.enc x⟩] ++ cap) w' (fun r w'' => r = .bool (q x) ∧ Ext w' w'')) (hn : xs.length ≤ 9223372036854775806) : Ret Tryz.prog 52 [.slice a xs.length c, .func (.func g) ⟨fst⟩ ⟨cap⟩] w (fun v w' => v = .bool (xs.all q) ∧ Ext w w') := by
 have hB := Below.refl w.heap.size w
 have hsz : w.heap.size ≤ w.heap.size := Nat.le_refl _
 refine ret_of_runs (args := [_, _]) Tryz.func52 rfl (Nat.le_of_ble_eq_true rfl) (by kernel_rfl) (r_seq (r_region' (l_o (o_box rfl rfl rfl ?_))))
 intro b1 w1 hzl1 hzr1 _ hb1 hE1
 have hbs_b1 : w.heap.size ≤ b1 := Nat.le_trans hsz hzl1
 replace hB := below_ext hB hE1 hsz
 replace hsz := Nat.le_trans hsz hE1.size
 refine l_q (qab rfl rfl) (l_nil (r_seq (r_region' (l_q (qms rfl rfl) (l_q (q_makeFunc (v := .func _ ⟨[]⟩ ⟨[_]⟩) rfl rfl) (l_o (o_call Tryz.call73 rfl (containsFunc_nt_ret _ _ xs 74 [] [ptr b1 0] (fun x => !q x) _ (hrow.below hB) Tryz.call74 (fun w' hw x hx => all1_nt_ret _ _ _ _ _ _ _ (hb1.ext hw) hin (fun w'' hw'' => hp _ ((Ext.of_below hB).trans (hw.trans hw'')) x hx)) hn) rfl ?_)))))))
 rintro _ w2 ⟨rfl, hE2⟩
 replace hB := below_ext hB hE2 hsz
 replace hsz := Nat.le_trans hsz hE2.size
 refine l_q (q_not rfl rfl) (l_q (qab rfl rfl) (l_nil (r_ret_ (vs := [.bool _]) rfl Tryz.func52 rfl (.nil _) ⟨rfl, trivial⟩ ?_)))
 exact ⟨vbool_eq (by rw [List.all_eq_not_any_not]), Ext.of_below hB⟩
theorem lmin_ret (xa : Option Addr) (xc : Nat) (xs : List Int) (w : World) (hx : Row w xa xs.length xc 1 (xs.map vint)) (hxn : xs.length ≤ 2097152) (h0 : 0 < xs.length) : Ret Tryz.prog 60 [.slice xa xs.length xc] w (fun v w' => v = vint (minOf xs) ∧ Ext w w') := by
 have hB := Below.refl w.heap.size w
 have hsz : w.heap.size ≤ w.heap.size := Nat.le_refl _
 refine ret_of_runs (args := [_]) Tryz.func60 rfl (Nat.le_of_ble_eq_true rfl) (by kernel_rfl) (r_seq (r_region' (l_q (qai rfl rfl) (l_nil (r_seq (r_region' (l_q (qms rfl rfl) (l_o (o_call Tryz.call78 rfl (min_ret _ _ xs _ (hx.below hB) (by first | omega | simp) (by first | omega | simp)) rfl ?_)))))))))
 rintro _ w1 ⟨rfl, hE1⟩
 replace hB := below_ext hB hE1 hsz
 replace hsz := Nat.le_trans hsz hE1.size
 refine l_q (qai rfl rfl) (l_nil (r_ret_ (vs := [.int _ _]) rfl Tryz.func60 rfl (.nil _) ⟨rfl, trivial⟩ ?_))
 exact ⟨rfl, Ext.of_below hB⟩
theorem lto_ret (lo hi m : Int) (w : World) : Ret Tryz.prog 51 [.agg ⟨[vint lo, vint hi]⟩, vint m] w (fun v w' => v = .bool (decide (0 ≤ lo ∧ lo ≤ hi ∧ hi ≤ m)) ∧ Ext w w') := by
 have hB := Below.refl w.heap.size w
 have hsz : w.heap.size ≤ w.heap.size := Nat.le_refl _
 refine ret_of_runs (args := [_, _]) Tryz.func51 rfl (Nat.le_of_ble_eq_true rfl) (by kernel_rfl) (r_seq (r_region' (l_o (o_box rfl rfl rfl ?_))))
 intro b1 w1 hzl1 hzr1 _ hb1 hE1
 have hbs_b1 : w.heap.size ≤ b1 := Nat.le_trans hsz hzl1
 replace hB := below_ext hB hE1 hsz
 replace hsz := Nat.le_trans hsz hE1.size
 refine l_q (qab rfl rfl) (l_nil (r_seq (r_region' (l_q (q_fieldAddr (o' := 0) rfl fld43_0 rfl) (l_q (q_load Tryz.isAgg3 rfl ((hb1.has (o := 0) rfl)) rfl) (l_q (q_leq rfl rfl rfl) (l_q (qmb rfl rfl) (l_part 8 rfl (fun hc2 => ?_) (fun hc2 => ?_)))))))))
 ·
  replace hc2 := dt hc2
  refine l_q (q_fieldAddr (o' := 0) rfl fld43_0 rfl) (l_q (q_load Tryz.isAgg3 rfl ((hb1.has (o := 0) rfl)) rfl) (l_q (q_fieldAddr (o' := 1) rfl fld43_1 rfl) (l_q (q_load Tryz.isAgg3 rfl ((hb1.has (o := 1) rfl)) rfl) (l_q (q_leq rfl rfl rfl) (l_q (q_pick_t (v := .bool _) rfl rfl rfl) (l_q (qmb rfl rfl) (l_part 15 rfl (fun hc3 => ?_) (fun hc3 => ?_))))))))
  ·
   replace hc3 := dt hc3
   refine l_q (q_fieldAddr (o' := 1) rfl fld43_1 rfl) (l_q (q_load Tryz.isAgg3 rfl ((hb1.has (o := 1) rfl)) rfl) (l_q (qmi rfl rfl) (l_q (q_leq rfl rfl rfl) (l_q (q_pick_t (v := .bool _) rfl rfl rfl) (l_q (qab rfl rfl) (l_nil (r_forget [(4, .bool _)] ⟨rfl, trivial⟩ (fun e4 => (r_ret_ (vs := [.bool _]) rfl Tryz.func51 rfl (.nil _) ⟨rfl, trivial⟩ ?_)))))))))
   exact ⟨vbool_eq (by symm; first | (apply decide_eq_true; omega) | (apply decide_eq_false; omega) | (rw [Bool.eq_iff_iff]; simp <;> omega)), Ext.of_below hB⟩
  ·
   replace hc3 := dle hc3
   refine l_q (q_skip rfl) (l_q (q_skip rfl) (l_q (q_skip rfl) (l_q (q_skip rfl) (l_q (q_pick_f (v := .bool _) rfl rfl rfl) (l_q (qab rfl rfl) (l_nil (r_forget [(4, .bool _)] ⟨rfl, trivial⟩ (fun e5 => (r_ret_ (vs := [.bool _]) rfl Tryz.func51 rfl (.nil _) ⟨rfl, trivial⟩ ?_)))))))))
   exact ⟨vbool_eq (by symm; first | (apply decide_eq_true; omega) | (apply decide_eq_false; omega) | (rw [Bool.eq_iff_iff]; simp <;> omega)), Ext.of_below hB⟩
 ·
  replace hc2 := dle hc2
  refine l_q (q_skip rfl) (l_q (q_skip rfl) (l_q (q_skip rfl) (l_q (q_skip rfl) (l_q (q_skip rfl) (l_q (q_pick_f (v := .bool _) rfl rfl rfl) (l_q (qmb rfl rfl) (l_q (q_skip rfl) (l_q (q_skip rfl) (l_q (q_skip rfl) (l_q (q_skip rfl) (l_q (q_pick_f (v := .bool _) rfl rfl rfl) (l_q (qab rfl rfl) (l_nil (r_forget [(4, .bool _)] ⟨rfl, trivial⟩ (fun e6 => (r_ret_ (vs := [.bool _]) rfl Tryz.func51 rfl (.nil _) ⟨rfl, trivial⟩ ?_))))))))))))))))
  exact ⟨vbool_eq (by symm; first | (apply decide_eq_true; omega) | (apply decide_eq_false; omega) | (rw [Bool.eq_iff_iff]; simp <;> omega)), Ext.of_below hB⟩
theorem span8_ret (lo hi m : Int) (w : World) : Ret Tryz.prog 21 [.agg ⟨[vint lo, vint hi]⟩, vint m] w (fun v w' => v = .bool (decide (0 ≤ lo ∧ lo ≤ hi ∧ hi ≤ m)) ∧ Ext w w') := by
 have hB := Below.refl w.heap.size w
 have hsz : w.heap.size ≤ w.heap.size := Nat.le_refl _
 refine ret_of_runs (args := [_, _]) Tryz.func21 rfl (Nat.le_of_ble_eq_true rfl) (by kernel_rfl) (r_seq (r_region' (l_o (o_box rfl rfl rfl ?_))))
 intro b1 w1 hzl1 hzr1 _ hb1 hE1
 have hbs_b1 : w.heap.size ≤ b1 := Nat.le_trans hsz hzl1
 replace hB := below_ext hB hE1 hsz
 replace hsz := Nat.le_trans hsz hE1.size
 refine l_q (qab rfl rfl) (l_nil (r_seq (r_region' (l_q (q_fieldAddr (o' := 0) rfl fld23_0 rfl) (l_q (q_load Tryz.isAgg3 rfl ((hb1.has (o := 0) rfl)) rfl) (l_q (q_fieldAddr (o' := 1) rfl fld23_1 rfl) (l_q (q_load Tryz.isAgg3 rfl ((hb1.has (o := 1) rfl)) rfl) (l_o (o_call Tryz.call20 rfl (in8_ret _ _ _ _) rfl ?_)))))))))
 rintro _ w2 ⟨rfl, rfl⟩
 refine l_q (qmb rfl rfl) (l_part 10 rfl (fun hc3 => ?_) (fun hc3 => ?_))
 ·
  replace hc3 := b2t hc3
  refine l_q (q_fieldAddr (o' := 1) rfl fld23_1 rfl) (l_q (q_load Tryz.isAgg3 rfl ((hb1.has (o := 1) rfl)) rfl) (l_q (qmi rfl rfl) (l_q (q_leq rfl rfl rfl) (l_q (q_pick_t (v := .bool _) rfl rfl rfl) (l_q (qab rfl rfl) (l_nil (r_forget [(4, .bool _)] ⟨rfl, trivial⟩ (fun e4 => (r_ret_ (vs := [.bool _]) rfl Tryz.func21 rfl (.nil _) ⟨rfl, trivial⟩ ?_)))))))))
  exact ⟨vbool_eq (by symm; first | (apply decide_eq_true; omega) | (apply decide_eq_false; omega) | (rw [Bool.eq_iff_iff]; simp <;> omega)), Ext.of_below hB⟩
 ·
  replace hc3 := b2f hc3
  refine l_q (q_skip rfl) (l_q (q_skip rfl) (l_q (q_skip rfl) (l_q (q_skip rfl) (l_q (q_pick_f (v := .bool _) rfl rfl rfl) (l_q (qab rfl rfl) (l_nil (r_forget [(4, .bool _)] ⟨rfl, trivial⟩ (fun e5 => (r_ret_ (vs := [.bool _]) rfl Tryz.func21 rfl (.nil _) ⟨rfl, trivial⟩ ?_)))))))))
  exact ⟨vbool_eq (by symm; first | (apply decide_eq_true; omega) | (apply decide_eq_false; omega) | (rw [Bool.eq_iff_iff]; simp <;> omega)), Ext.of_below hB⟩
theorem lhas_ret (lo hi n : Int) (w : World) : Ret Tryz.prog 59 [.agg ⟨[vint lo, vint hi]⟩, vint n] w (fun v w' => v = .bool (decide (lo ≤ n) && decide (n ≤ hi)) ∧ Ext w w') := by
 have hB := Below.refl w.heap.size w
 have hsz : w.heap.size ≤ w.heap.size := Nat.le_refl _
 refine ret_of_runs (args := [_, _]) Tryz.func59 rfl (Nat.le_of_ble_eq_true rfl) (by kernel_rfl) (r_seq (r_region' (l_o (o_box rfl rfl rfl ?_))))
 intro b1 w1 hzl1 hzr1 _ hb1 hE1
 have hbs_b1 : w.heap.size ≤ b1 := Nat.le_trans hsz hzl1
 replace hB := below_ext hB hE1 hsz
 replace hsz := Nat.le_trans hsz hE1.size
 refine l_q (qab rfl rfl) (l_nil (r_seq (r_region' (l_q (qmi rfl rfl) (l_q (q_fieldAddr (o' := 0) rfl fld43_0 rfl) (l_q (q_load Tryz.isAgg3 rfl ((hb1.has (o := 0) rfl)) rfl) (l_q (q_fieldAddr (o' := 1) rfl fld43_1 rfl) (l_q (q_load Tryz.isAgg3 rfl ((hb1.has (o := 1) rfl)) rfl) (l_o (o_call Tryz.call50 rfl (lwithin_ret _ _ _ _) rfl ?_))))))))))
 rintro _ w2 ⟨rfl, rfl⟩
 refine l_q (qab rfl rfl) (l_nil (r_ret_ (vs := [.bool _]) rfl Tryz.func59 rfl (.nil _) ⟨rfl, trivial⟩ ?_))
 exact ⟨rfl, Ext.of_below hB⟩
theorem nvalid_ret (x : NT) (w : World) : Ret Tryz.prog 53 [.agg ⟨[vint x.h, vint x.le, vint x.mo, vint x.lo, vint x.hi]⟩] w (fun v w' => v = .bool (okNight x) ∧ Ext w w') := by
 have hB := Below.refl w.heap.size w
 have hsz : w.heap.size ≤ w.heap.size := Nat.le_refl _
 refine ret_of_runs (args := [_]) Tryz.func53 rfl (Nat.le_of_ble_eq_true rfl) (by kernel_rfl) (r_seq (r_region' (l_o (o_box rfl rfl rfl ?_))))
 intro b1 w1 hzl1 hzr1 _ hb1 hE1
 have hbs_b1 : w.heap.size ≤ b1 := Nat.le_trans hsz hzl1
 replace hB := below_ext hB hE1 hsz
 replace hsz := Nat.le_trans hsz hE1.size
 refine l_q (qab rfl rfl) (l_nil (r_seq (r_region' (l_q (q_fieldAddr (o' := 0) rfl fld75_0 rfl) (l_q (q_load Tryz.isAgg3 rfl ((hb1.has (o := 0) rfl)) rfl) (l_o (o_call Tryz.call50 rfl (lwithin_ret _ _ _ _) rfl ?_)))))))
 rintro _ w2 ⟨rfl, rfl⟩
 refine l_q (qmb rfl rfl) (l_part 6 rfl (fun hc3 => ?_) (fun hc3 => ?_))
 ·
  replace hc3 := b2t hc3
  refine l_q (q_fieldAddr (o' := 1) rfl fld75_1 rfl) (l_q (q_load Tryz.isAgg3 rfl ((hb1.has (o := 1) rfl)) rfl) (l_q (q_leq rfl rfl rfl) (l_q (q_pick_t (v := .bool _) rfl rfl rfl) (l_q (qmb rfl rfl) (l_part 11 rfl (fun hc4 => ?_) (fun hc4 => ?_))))))
  ·
   replace hc4 := dt hc4
   refine l_q (q_fieldAddr (o' := 1) rfl fld75_1 rfl) (l_q (q_load Tryz.isAgg3 rfl ((hb1.has (o := 1) rfl)) rfl) (l_q (q_fieldAddr (o' := 2) rfl fld75_2 rfl) (l_q (q_load Tryz.isAgg3 rfl ((hb1.has (o := 2) rfl)) rfl) (l_q (q_leq rfl rfl rfl) (l_q (q_pick_t (v := .bool _) rfl rfl rfl) (l_q (qmb rfl rfl) (l_part 18 rfl (fun hc5 => ?_) (fun hc5 => ?_))))))))
   ·
    replace hc5 := dt hc5
    refine l_q (q_fieldAddr (o' := 2) rfl fld75_2 rfl) (l_q (q_load Tryz.isAgg3 rfl ((hb1.has (o := 2) rfl)) rfl) (l_q (q_leq rfl rfl rfl) (l_q (q_pick_t (v := .bool _) rfl rfl rfl) (l_q (qmb rfl rfl) (l_part 23 rfl (fun hc6 => ?_) (fun hc6 => ?_))))))
    ·
     replace hc6 := dt hc6
     refine l_q (q_fieldAddr (o' := 3) rfl fld75_3 rfl) (l_q (q_load_agg (n := 2) Tryz.isAgg43 Tryz.sizeOf43 rfl ((hb1.cells' (cs' := [_, _]) 3 2 rfl)) rfl rfl) (l_o (o_call Tryz.call51 rfl (lto_ret _ _ _ _) rfl ?_)))
     rintro _ w7 ⟨rfl, hE7⟩
     replace hB := below_ext hB hE7 hsz
     replace hsz := Nat.le_trans hsz hE7.size
     refine l_q (q_pick_t (v := .bool _) rfl rfl rfl) (l_q (qab rfl rfl) (l_nil (r_forget [(2, .bool _)] ⟨rfl, trivial⟩ (fun e8 => (r_ret_ (vs := [.bool _]) rfl Tryz.func53 rfl (.nil _) ⟨rfl, trivial⟩ ?_)))))
     exact ⟨vbool_eq (by symm; unfold okNight; first | (apply decide_eq_true; omega) | (apply decide_eq_false; omega) | (rw [Bool.eq_iff_iff]; simp <;> omega)), Ext.of_below hB⟩
    ·
     replace hc6 := dle hc6
     refine l_q (q_skip rfl) (l_q (q_skip rfl) (l_q (q_skip rfl) (l_q (q_pick_f (v := .bool _) rfl rfl rfl) (l_q (qab rfl rfl) (l_nil (r_forget [(2, .bool _)] ⟨rfl, trivial⟩ (fun e9 => (r_ret_ (vs := [.bool _]) rfl Tryz.func53 rfl (.nil _) ⟨rfl, trivial⟩ ?_))))))))
     exact ⟨vbool_eq (by symm; unfold okNight; first | (apply decide_eq_true; omega) | (apply decide_eq_false; omega) | (rw [Bool.eq_iff_iff]; simp <;> omega)), Ext.of_below hB⟩
   ·
    replace hc5 := dle hc5
    refine l_q (q_skip rfl) (l_q (q_skip rfl) (l_q (q_skip rfl) (l_q (q_pick_f (v := .bool _) rfl rfl rfl) (l_q (qmb rfl rfl) (l_q (q_skip rfl) (l_q (q_skip rfl) (l_q (q_skip rfl) (l_q (q_pick_f (v := .bool _) rfl rfl rfl) (l_q (qab rfl rfl) (l_nil (r_forget [(2, .bool _)] ⟨rfl, trivial⟩ (fun e10 => (r_ret_ (vs := [.bool _]) rfl Tryz.func53 rfl (.nil _) ⟨rfl, trivial⟩ ?_)))))))))))))
    exact ⟨vbool_eq (by symm; unfold okNight; first | (apply decide_eq_true; omega) | (apply decide_eq_false; omega) | (rw [Bool.eq_iff_iff]; simp <;> omega)), Ext.of_below hB⟩
  ·
   replace hc4 := dle hc4
   refine l_q (q_skip rfl) (l_q (q_skip rfl) (l_q (q_skip rfl) (l_q (q_skip rfl) (l_q (q_skip rfl) (l_q (q_pick_f (v := .bool _) rfl rfl rfl) (l_q (qmb rfl rfl) (l_q (q_skip rfl) (l_q (q_skip rfl) (l_q (q_skip rfl) (l_q (q_pick_f (v := .bool _) rfl rfl rfl) (l_q (qmb rfl rfl) (l_q (q_skip rfl) (l_q (q_skip rfl) (l_q (q_skip rfl) (l_q (q_pick_f (v := .bool _) rfl rfl rfl) (l_q (qab rfl rfl) (l_nil (r_forget [(2, .bool _)] ⟨rfl, trivial⟩ (fun e11 => (r_ret_ (vs := [.bool _]) rfl Tryz.func53 rfl (.nil _) ⟨rfl, trivial⟩ ?_))))))))))))))))))))
   exact ⟨vbool_eq (by symm; unfold okNight; first | (apply decide_eq_true; omega) | (apply decide_eq_false; omega) | (rw [Bool.eq_iff_iff]; simp <;> omega)), Ext.of_below hB⟩
 ·
  replace hc3 := b2f hc3
  refine l_q (q_skip rfl) (l_q (q_skip rfl) (l_q (q_skip rfl) (l_q (q_pick_f (v := .bool _) rfl rfl rfl) (l_q (qmb rfl rfl) (l_q (q_skip rfl) (l_q (q_skip rfl) (l_q (q_skip rfl) (l_q (q_skip rfl) (l_q (q_skip rfl) (l_q (q_pick_f (v := .bool _) rfl rfl rfl) (l_q (qmb rfl rfl) (l_q (q_skip rfl) (l_q (q_skip rfl) (l_q (q_skip rfl) (l_q (q_pick_f (v := .bool _) rfl rfl rfl) (l_q (qmb rfl rfl) (l_q (q_skip rfl) (l_q (q_skip rfl) (l_q (q_skip rfl) (l_q (q_pick_f (v := .bool _) rfl rfl rfl) (l_q (qab rfl rfl) (l_nil (r_forget [(2, .bool _)] ⟨rfl, trivial⟩ (fun e12 => (r_ret_ (vs := [.bool _]) rfl Tryz.func53 rfl (.nil _) ⟨rfl, trivial⟩ ?_)))))))))))))))))))))))))
  exact ⟨vbool_eq (by symm; unfold okNight; first | (apply decide_eq_true; omega) | (apply decide_eq_false; omega) | (rw [Bool.eq_iff_iff]; simp <;> omega)), Ext.of_below hB⟩
theorem checkStore_ret (cap can s0 s1 : Int) (sa : Option Addr) (sc : Nat) (ns : List NT) (w : World) (hns : Row w sa ns.length sc 5 (ns.flatMap NT.enc)) (hnl : ns.length ≤ 2097152) : Ret Tryz.prog 23 [.agg ⟨[vint cap, vint can, vint s0, vint s1, .slice sa ns.length sc]⟩] w (fun v w' => v = vint (faultS cap can s0 s1 ns) ∧ Ext w w') := by
 have hB := Below.refl w.heap.size w
 have hsz : w.heap.size ≤ w.heap.size := Nat.le_refl _
 refine ret_of_runs (args := [_]) Tryz.func23 rfl (Nat.le_of_ble_eq_true rfl) (by kernel_rfl) (r_seq (r_region' (l_o (o_box rfl rfl rfl ?_))))
 intro b1 w1 hzl1 hzr1 _ hb1 hE1
 have hbs_b1 : w.heap.size ≤ b1 := Nat.le_trans hsz hzl1
 replace hB := below_ext hB hE1 hsz
 replace hsz := Nat.le_trans hsz hE1.size
 refine l_q (qai rfl rfl) (l_nil (r_seq (r_block (r_seq (r_region' (l_q (q_fieldAddr (o' := 4) rfl fld46_3 rfl) (l_q (q_load Tryz.isAgg44 rfl ((hb1.has (o := 4) rfl)) rfl) (l_q (q_len rfl Tryz.underlying44 rfl rfl) (l_q (q_gtr rfl rfl rfl) (l_q (qab rfl rfl) (l_nil (r_cond rfl (fun hc2 => ?_) (fun hc2 => ?_)))))))))))))
 ·
  replace hc2 := dt hc2
  refine r_seq (r_region' (l_q (qai rfl rfl) (l_nil (r_ret_ (vs := [.int _ _]) rfl Tryz.func23 rfl (.nil _) ⟨rfl, trivial⟩ ?_))))
  exact ⟨vint_eq (faultS_3 (by omega)).symm, Ext.of_below hB⟩
 ·
  replace hc2 := dlt hc2
  refine r_seq (r_region' (l_q (q_fieldAddr (o' := 0) rfl fld46_0 rfl) (l_q (q_load Tryz.isAgg3 rfl ((hb1.has (o := 0) rfl)) rfl) (l_o (o_call Tryz.call50 rfl (lwithin_ret _ _ _ _) rfl ?_)))))
  rintro _ w3 ⟨rfl, rfl⟩
  refine l_q (q_not rfl rfl) (l_q (qmb rfl rfl) (l_part 13 rfl (fun hc4 => ?_) (fun hc4 => ?_)))
  ·
   replace hc4 := b2f (nt hc4)
   refine l_q (q_skip rfl) (l_q (q_skip rfl) (l_q (q_skip rfl) (l_q (q_skip rfl) (l_q (q_pick_t (v := .bool _) rfl rfl rfl) (l_q (qmb rfl rfl) (l_q (q_skip rfl) (l_q (q_skip rfl) (l_q (q_skip rfl) (l_q (q_skip rfl) (l_q (q_skip rfl) (l_q (q_skip rfl) (l_q (q_pick_t (v := .bool _) rfl rfl rfl) (l_q (qmb rfl rfl) (l_q (q_skip rfl) (l_q (q_skip rfl) (l_q (q_skip rfl) (l_q (q_skip rfl) (l_q (q_pick_t (v := .bool _) rfl rfl rfl) (l_q (qmb rfl rfl) (l_q (q_skip rfl) (l_q (q_skip rfl) (l_q (q_skip rfl) (l_q (q_skip rfl) (l_q (q_pick_t (v := .bool _) rfl rfl rfl) (l_q (qab rfl rfl) (l_nil (r_forget [(8, .bool _)] ⟨rfl, trivial⟩ (fun e5 => (r_cond_t rfl (r_seq (r_region' (l_q (qai rfl rfl) (l_nil (r_ret_ (vs := [.int _ _]) rfl Tryz.func23 rfl (.nil _) ⟨rfl, trivial⟩ ?_))))))))))))))))))))))))))))))))))
   exact ⟨vint_eq (faultS_1 (by omega) (fun h => by have h1 := h.cap1; have h2 := h.can1; have h3 := h.st; have h4 := h.pos; have h5 := List.all_eq_true.2 h.ok; first | omega | (rw [h5] at g8; cases g8))).symm, Ext.of_below hB⟩
  ·
   replace hc4 := b2t (nf hc4)
   refine l_q (q_fieldAddr (o' := 1) rfl fld46_1 rfl) (l_q (q_load Tryz.isAgg3 rfl ((hb1.has (o := 1) rfl)) rfl) (l_o (o_call Tryz.call50 rfl (lwithin_ret _ _ _ _) rfl ?_)))
   rintro _ w6 ⟨rfl, rfl⟩
   refine l_q (q_not rfl rfl) (l_q (q_pick_f (v := .bool _) rfl rfl rfl) (l_q (qmb rfl rfl) (l_part 19 rfl (fun hc7 => ?_) (fun hc7 => ?_))))
   ·
    replace hc7 := b2f (nt hc7)
    refine l_q (q_skip rfl) (l_q (q_skip rfl) (l_q (q_skip rfl) (l_q (q_skip rfl) (l_q (q_skip rfl) (l_q (q_skip rfl) (l_q (q_pick_t (v := .bool _) rfl rfl rfl) (l_q (qmb rfl rfl) (l_q (q_skip rfl) (l_q (q_skip rfl) (l_q (q_skip rfl) (l_q (q_skip rfl) (l_q (q_pick_t (v := .bool _) rfl rfl rfl) (l_q (qmb rfl rfl) (l_q (q_skip rfl) (l_q (q_skip rfl) (l_q (q_skip rfl) (l_q (q_skip rfl) (l_q (q_pick_t (v := .bool _) rfl rfl rfl) (l_q (qab rfl rfl) (l_nil (r_forget [(8, .bool _)] ⟨rfl, trivial⟩ (fun e8 => (r_cond_t rfl (r_seq (r_region' (l_q (qai rfl rfl) (l_nil (r_ret_ (vs := [.int _ _]) rfl Tryz.func23 rfl (.nil _) ⟨rfl, trivial⟩ ?_))))))))))))))))))))))))))))
    exact ⟨vint_eq (faultS_1 (by omega) (fun h => by have h1 := h.cap1; have h2 := h.can1; have h3 := h.st; have h4 := h.pos; have h5 := List.all_eq_true.2 h.ok; first | omega | (rw [h5] at g8; cases g8))).symm, Ext.of_below hB⟩
   ·
    replace hc7 := b2t (nf hc7)
    refine l_q (q_fieldAddr (o' := 2) rfl fld46_2 rfl) (l_q (q_load_agg (n := 2) Tryz.isAgg43 Tryz.sizeOf43 rfl ((hb1.cells' (cs' := [_, _]) 2 2 rfl)) rfl rfl) (l_q (q_fieldAddr (o' := 0) rfl fld46_0 rfl) (l_q (q_load Tryz.isAgg3 rfl ((hb1.has (o := 0) rfl)) rfl) (l_o (o_call Tryz.call51 rfl (lto_ret _ _ _ _) rfl ?_)))))
    rintro _ w9 ⟨rfl, hE9⟩
    replace hB := below_ext hB hE9 hsz
    replace hb1 := hb1.ext hE9
    replace hsz := Nat.le_trans hsz hE9.size
    refine l_q (q_not rfl rfl) (l_q (q_pick_f (v := .bool _) rfl rfl rfl) (l_q (qmb rfl rfl) (l_part 27 rfl (fun hc10 => ?_) (fun hc10 => ?_))))
    ·
     replace hc10 := df (nt hc10)
     refine l_q (q_skip rfl) (l_q (q_skip rfl) (l_q (q_skip rfl) (l_q (q_skip rfl) (l_q (q_pick_t (v := .bool _) rfl rfl rfl) (l_q (qmb rfl rfl) (l_q (q_skip rfl) (l_q (q_skip rfl) (l_q (q_skip rfl) (l_q (q_skip rfl) (l_q (q_pick_t (v := .bool _) rfl rfl rfl) (l_q (qab rfl rfl) (l_nil (r_forget [(8, .bool _)] ⟨rfl, trivial⟩ (fun e11 => (r_cond_t rfl (r_seq (r_region' (l_q (qai rfl rfl) (l_nil (r_ret_ (vs := [.int _ _]) rfl Tryz.func23 rfl (.nil _) ⟨rfl, trivial⟩ ?_))))))))))))))))))))
     exact ⟨vint_eq (faultS_1 (by omega) (fun h => by have h1 := h.cap1; have h2 := h.can1; have h3 := h.st; have h4 := h.pos; have h5 := List.all_eq_true.2 h.ok; first | omega | (rw [h5] at g8; cases g8))).symm, Ext.of_below hB⟩
    ·
     replace hc10 := dt (nf hc10)
     refine l_q (q_fieldAddr (o' := 4) rfl fld46_3 rfl) (l_q (q_load Tryz.isAgg44 rfl ((hb1.has (o := 4) rfl)) rfl) (l_q (q_len rfl Tryz.underlying44 rfl rfl) (l_q (q_eql rfl rfl rfl) (l_q (q_pick_f (v := .bool _) rfl rfl rfl) (l_q (qmb rfl rfl) (l_part 33 rfl (fun hc12 => ?_) (fun hc12 => ?_)))))))
     ·
      replace hc12 := dt hc12
      refine l_q (q_skip rfl) (l_q (q_skip rfl) (l_q (q_skip rfl) (l_q (q_skip rfl) (l_q (q_pick_t (v := .bool _) rfl rfl rfl) (l_q (qab rfl rfl) (l_nil (r_forget [(8, .bool _)] ⟨rfl, trivial⟩ (fun e13 => (r_cond_t rfl (r_seq (r_region' (l_q (qai rfl rfl) (l_nil (r_ret_ (vs := [.int _ _]) rfl Tryz.func23 rfl (.nil _) ⟨rfl, trivial⟩ ?_))))))))))))))
      exact ⟨vint_eq (faultS_1 (by omega) (fun h => by have h1 := h.cap1; have h2 := h.can1; have h3 := h.st; have h4 := h.pos; have h5 := List.all_eq_true.2 h.ok; first | omega | (rw [h5] at g8; cases g8))).symm, Ext.of_below hB⟩
     ·
      replace hc12 := df hc12
      refine l_q (q_fieldAddr (o' := 4) rfl fld46_3 rfl) (l_q (q_load Tryz.isAgg44 rfl ((hb1.has (o := 4) rfl)) rfl) (l_o (o_call Tryz.call52 rfl (all_nt_ret _ _ ns 53 _ _ okNight _ (hns.below hB) Tryz.call53 (fun w' hw x hx => nvalid_ret x _) (by omega)) rfl ?_)))
      rintro _ w14 ⟨rfl, hE14⟩
      replace hB := below_ext hB hE14 hsz
      replace hsz := Nat.le_trans hsz hE14.size
      refine l_q (q_not rfl rfl) (l_q (q_pick_f (v := .bool _) rfl rfl rfl) (l_q (qab rfl rfl) (l_nil (r_forget [(8, .bool _)] ⟨rfl, trivial⟩ (fun e15 => (r_cond rfl (fun hc16 => ?_) (fun hc16 => ?_)))))))
      ·
       replace hc16 := nt hc16
       have g8 := hc16
       refine r_seq (r_region' (l_q (qai rfl rfl) (l_nil (r_ret_ (vs := [.int _ _]) rfl Tryz.func23 rfl (.nil _) ⟨rfl, trivial⟩ ?_))))
       exact ⟨vint_eq (faultS_1 (by omega) (fun h => by have h1 := h.cap1; have h2 := h.can1; have h3 := h.st; have h4 := h.pos; have h5 := List.all_eq_true.2 h.ok; first | omega | (rw [h5] at g8; cases g8))).symm, Ext.of_below hB⟩
      ·
       replace hc16 := nf hc16
       have g8 := hc16
       refine r_skip (r_inBlock (r_seq (r_region' (l_q (qai rfl rfl) (l_nil (r_ret_ (vs := [.int _ _]) rfl Tryz.func23 rfl (.nil _) ⟨rfl, trivial⟩ ?_))))))
       exact ⟨vint_eq (faultS_0 ⟨by omega, by omega, by omega, by omega, by omega, List.all_eq_true.1 (by simpa using g8)⟩).symm, Ext.of_below hB⟩
theorem fault8_ret (cap can s0 s1 : Int) (sa : Option Addr) (sc : Nat) (ns : List NT) (w : World) (hns : Row w sa ns.length sc 5 (ns.flatMap NT.enc)) (hnl : ns.length ≤ 2097152) : Ret Tryz.prog 5 [.agg ⟨[vint cap, vint can, vint s0, vint s1, .slice sa ns.length sc]⟩] w (fun v w' => v = vint (faultS cap can s0 s1 ns) ∧ Ext w w') := by
 have hB := Below.refl w.heap.size w
 have hsz : w.heap.size ≤ w.heap.size := Nat.le_refl _
 refine ret_of_runs (args := [_]) Tryz.func5 rfl (Nat.le_of_ble_eq_true rfl) (by kernel_rfl) (r_seq (r_region' (l_o (o_box rfl rfl rfl ?_))))
 intro b1 w1 hzl1 hzr1 _ hb1 hE1
 have hbs_b1 : w.heap.size ≤ b1 := Nat.le_trans hsz hzl1
 replace hB := below_ext hB hE1 hsz
 replace hsz := Nat.le_trans hsz hE1.size
 refine l_q (qai rfl rfl) (l_nil (r_seq (r_seq (r_region' (l_q (q_fieldAddr (o' := 4) rfl fld26_3 rfl) (l_q (q_load Tryz.isAgg24 rfl ((hb1.has (o := 4) rfl)) rfl) (l_q (q_len rfl Tryz.underlying24 rfl rfl) (l_q (q_gtr rfl rfl rfl) (l_nil (r_cond rfl (fun hc2 => ?_) (fun hc2 => ?_)))))))))))
 ·
  replace hc2 := dt hc2
  refine r_seq (r_region' (l_q (qai rfl rfl) (l_nil (r_ret_ (vs := [.int _ _]) rfl Tryz.func5 rfl (.nil _) ⟨rfl, trivial⟩ ?_))))
  exact ⟨vint_eq (faultS_3 (by omega)).symm, Ext.of_below hB⟩
 ·
  replace hc2 := dlt hc2
  refine r_skip (r_seq (r_seq (r_region' (l_q (q_fieldAddr (o' := 0) rfl fld26_0 rfl) (l_q (q_load Tryz.isAgg3 rfl ((hb1.has (o := 0) rfl)) rfl) (l_o (o_call Tryz.call20 rfl (in8_ret _ _ _ _) rfl ?_)))))))
  rintro _ w3 ⟨rfl, rfl⟩
  refine l_q (q_not rfl rfl) (l_q (qmb rfl rfl) (l_part 13 rfl (fun hc4 => ?_) (fun hc4 => ?_)))
  ·
   replace hc4 := b2f (nt hc4)
   refine l_q (q_skip rfl) (l_q (q_skip rfl) (l_q (q_skip rfl) (l_q (q_skip rfl) (l_q (q_pick_t (v := .bool _) rfl rfl rfl) (l_q (qmb rfl rfl) (l_q (q_skip rfl) (l_q (q_skip rfl) (l_q (q_skip rfl) (l_q (q_skip rfl) (l_q (q_skip rfl) (l_q (q_skip rfl) (l_q (q_pick_t (v := .bool _) rfl rfl rfl) (l_q (qmb rfl rfl) (l_q (q_skip rfl) (l_q (q_skip rfl) (l_q (q_skip rfl) (l_q (q_skip rfl) (l_q (q_pick_t (v := .bool _) rfl rfl rfl) (l_nil (r_forget [(1, .pointer _), (32, .bool _)] ⟨rfl, rfl, trivial⟩ (fun e5 => (r_cond_t rfl (r_seq (r_region' (l_q (qai rfl rfl) (l_nil (r_ret_ (vs := [.int _ _]) rfl Tryz.func5 rfl (.nil _) ⟨rfl, trivial⟩ ?_)))))))))))))))))))))))))))
   exact ⟨vint_eq (faultS_1 (by omega) (fun h => by have h1 := h.cap1; have h2 := h.can1; have h3 := h.st; have h4 := h.pos; omega)).symm, Ext.of_below hB⟩
  ·
   replace hc4 := b2t (nf hc4)
   refine l_q (q_fieldAddr (o' := 1) rfl fld26_1 rfl) (l_q (q_load Tryz.isAgg3 rfl ((hb1.has (o := 1) rfl)) rfl) (l_o (o_call Tryz.call20 rfl (in8_ret _ _ _ _) rfl ?_)))
   rintro _ w6 ⟨rfl, rfl⟩
   refine l_q (q_not rfl rfl) (l_q (q_pick_f (v := .bool _) rfl rfl rfl) (l_q (qmb rfl rfl) (l_part 19 rfl (fun hc7 => ?_) (fun hc7 => ?_))))
   ·
    replace hc7 := b2f (nt hc7)
    refine l_q (q_skip rfl) (l_q (q_skip rfl) (l_q (q_skip rfl) (l_q (q_skip rfl) (l_q (q_skip rfl) (l_q (q_skip rfl) (l_q (q_pick_t (v := .bool _) rfl rfl rfl) (l_q (qmb rfl rfl) (l_q (q_skip rfl) (l_q (q_skip rfl) (l_q (q_skip rfl) (l_q (q_skip rfl) (l_q (q_pick_t (v := .bool _) rfl rfl rfl) (l_nil (r_forget [(1, .pointer _), (32, .bool _)] ⟨rfl, rfl, trivial⟩ (fun e8 => (r_cond_t rfl (r_seq (r_region' (l_q (qai rfl rfl) (l_nil (r_ret_ (vs := [.int _ _]) rfl Tryz.func5 rfl (.nil _) ⟨rfl, trivial⟩ ?_)))))))))))))))))))))
    exact ⟨vint_eq (faultS_1 (by omega) (fun h => by have h1 := h.cap1; have h2 := h.can1; have h3 := h.st; have h4 := h.pos; omega)).symm, Ext.of_below hB⟩
   ·
    replace hc7 := b2t (nf hc7)
    refine l_q (q_fieldAddr (o' := 2) rfl fld26_2 rfl) (l_q (q_load_agg (n := 2) Tryz.isAgg23 Tryz.sizeOf23 rfl ((hb1.cells' (cs' := [_, _]) 2 2 rfl)) rfl rfl) (l_q (q_fieldAddr (o' := 0) rfl fld26_0 rfl) (l_q (q_load Tryz.isAgg3 rfl ((hb1.has (o := 0) rfl)) rfl) (l_o (o_call Tryz.call21 rfl (span8_ret _ _ _ _) rfl ?_)))))
    rintro _ w9 ⟨rfl, hE9⟩
    replace hB := below_ext hB hE9 hsz
    replace hb1 := hb1.ext hE9
    replace hsz := Nat.le_trans hsz hE9.size
    refine l_q (q_not rfl rfl) (l_q (q_pick_f (v := .bool _) rfl rfl rfl) (l_q (qmb rfl rfl) (l_part 27 rfl (fun hc10 => ?_) (fun hc10 => ?_))))
    ·
     replace hc10 := df (nt hc10)
     refine l_q (q_skip rfl) (l_q (q_skip rfl) (l_q (q_skip rfl) (l_q (q_skip rfl) (l_q (q_pick_t (v := .bool _) rfl rfl rfl) (l_nil (r_forget [(1, .pointer _), (32, .bool _)] ⟨rfl, rfl, trivial⟩ (fun e11 => (r_cond_t rfl (r_seq (r_region' (l_q (qai rfl rfl) (l_nil (r_ret_ (vs := [.int _ _]) rfl Tryz.func5 rfl (.nil _) ⟨rfl, trivial⟩ ?_)))))))))))))
     exact ⟨vint_eq (faultS_1 (by omega) (fun h => by have h1 := h.cap1; have h2 := h.can1; have h3 := h.st; have h4 := h.pos; omega)).symm, Ext.of_below hB⟩
    ·
     replace hc10 := dt (nf hc10)
     refine l_q (q_fieldAddr (o' := 4) rfl fld26_3 rfl) (l_q (q_load Tryz.isAgg24 rfl ((hb1.has (o := 4) rfl)) rfl) (l_q (q_len rfl Tryz.underlying24 rfl rfl) (l_q (q_eql rfl rfl rfl) (l_q (q_pick_f (v := .bool _) rfl rfl rfl) (l_nil (r_forget [(1, .pointer _), (32, .bool _)] ⟨rfl, rfl, trivial⟩ (fun e12 => (r_cond rfl (fun hc13 => ?_) (fun hc13 => ?_)))))))))
     ·
      replace hc13 := dt hc13
      refine r_seq (r_region' (l_q (qai rfl rfl) (l_nil (r_ret_ (vs := [.int _ _]) rfl Tryz.func5 rfl (.nil _) ⟨rfl, trivial⟩ ?_))))
      exact ⟨vint_eq (faultS_1 (by omega) (fun h => by have h1 := h.cap1; have h2 := h.can1; have h3 := h.st; have h4 := h.pos; omega)).symm, Ext.of_below hB⟩
     ·
      replace hc13 := df hc13
      refine r_skip (r_seq (r_seq (r_region' (l_q (qai rfl rfl) (l_nil (r_block (r_rounds (α := Nat) (fun k e wl => Knows e [(1, ptr b1 0), (3, vint (k : Int))] ∧ (k ≤ ns.length) ∧ (∀ j, j < k → okNight (ns.getD j nt0) = true) ∧ (Blk wl b1 [vint cap, vint can, vint s0, vint s1, .slice sa ns.length sc]) ∧ (w.heap.size ≤ wl.heap.size) ∧ (Below w.heap.size w wl)) (fun k => ns.length - k) 0 ?_ ?_)))))))
      ·
       exact ⟨⟨rfl, rfl, trivial⟩, (Nat.zero_le _), (fun i hi => absurd hi (Nat.not_lt_zero _)), hb1, hsz, hB⟩
      ·
       rintro k el14 wl14 ⟨hkn, hkk, hno, hb1, hsz, hB⟩ ih14
       obtain ⟨e14, rfl⟩ := knows_env hkn
       refine r_seq (r_seq (r_region' (l_q (qmi rfl rfl) (l_q (q_fieldAddr (o' := 4) rfl fld26_3 rfl) (l_q (q_load Tryz.isAgg24 rfl ((hb1.has (o := 4) rfl)) rfl) (l_q (q_len rfl Tryz.underlying24 rfl rfl) (l_q (q_lss rfl rfl rfl) (l_nil (r_cond rfl (fun hc15 => ?_) (fun hc15 => ?_))))))))))
       ·
        replace hc15 := dt hc15
        have hkn : k < ns.length := by omega
        refine r_skip (r_seq (r_block (r_seq (r_region' (l_q (q_fieldAddr (o' := 4) rfl fld26_3 rfl) (l_q (q_load Tryz.isAgg24 rfl ((hb1.has (o := 4) rfl)) rfl) (l_q (qmi rfl rfl) ?_)))))))
        obtain ⟨b16, o16, ha16, hh16⟩ := (hns.below hB).at (by decide) k (by omega)
        refine l_q (q_indexAddr Tryz.underlying24 Tryz.sizeOf49 rfl ha16 rfl (by omega) rfl) (l_q (q_load_agg (cs := [vint (((ns).getD k nt0).h), vint (((ns).getD k nt0).le), vint (((ns).getD k nt0).mo), vint (((ns).getD k nt0).lo), vint (((ns).getD k nt0).hi)]) (n := 5) Tryz.isAgg49 Tryz.sizeOf49 rfl ((cells_cast (wide_at NT.len nt0 _ _ (by omega)) hh16)) rfl rfl) (l_o (o_alloc Tryz.zeroValue49 rfl rfl ?_)))
        intro b17 w17 hzl17 hzr17 _ hb17 hE17
        have hne_b1_b17 : b1 ≠ b17 := by have := hb1.lt; omega
        have hbs_b17 : w.heap.size ≤ b17 := Nat.le_trans hsz hzl17
        replace hB := below_ext hB hE17 hsz
        replace hb1 := hb1.ext hE17
        replace hsz := Nat.le_trans hsz hE17.size
        refine l_o (o_store (vs := [vint (((ns).getD k nt0).h), vint (((ns).getD k nt0).le), vint (((ns).getD k nt0).mo), vint (((ns).getD k nt0).lo), vint (((ns).getD k nt0).hi)]) (cs' := [vint (((ns).getD k nt0).h), vint (((ns).getD k nt0).le), vint (((ns).getD k nt0).mo), vint (((ns).getD k nt0).lo), vint (((ns).getD k nt0).hi)]) Tryz.sizeOf49 rfl rfl rfl rfl hb17 (Nat.le_of_ble_eq_true rfl) rfl rfl ?_)
        intro w18 hz18 hb17 hG18
        replace hB := below_upd hB hG18 hsz (by omega)
        replace hsz : w.heap.size ≤ w18.heap.size := by rw [hz18]; exact hsz
        replace hb1 := hb1.upd hG18 (by omega)
        refine l_nil (r_forget [(1, .pointer _), (3, .int _ _), (4, .pointer _)] ⟨rfl, rfl, rfl, trivial⟩ (fun e19 => (r_seq (r_region' (l_q (q_fieldAddr (o' := 0) rfl fld49_0 rfl) (l_q (q_load Tryz.isAgg3 rfl ((hb17.has (o := 0) rfl)) rfl) (l_o (o_call Tryz.call20 rfl (in8_ret _ _ _ _) rfl ?_))))))))
        rintro _ w20 ⟨rfl, rfl⟩
        refine l_q (q_not rfl rfl) (l_q (qmb rfl rfl) (l_part 49 rfl (fun hc21 => ?_) (fun hc21 => ?_)))
        ·
         replace hc21 := b2f (nt hc21)
         refine l_q (q_skip rfl) (l_q (q_skip rfl) (l_q (q_skip rfl) (l_q (q_skip rfl) (l_q (q_skip rfl) (l_q (q_skip rfl) (l_q (q_pick_t (v := .bool _) rfl rfl rfl) (l_q (qmb rfl rfl) (l_q (q_skip rfl) (l_q (q_skip rfl) (l_q (q_skip rfl) (l_q (q_pick_t (v := .bool _) rfl rfl rfl) (l_q (qmb rfl rfl) (l_q (q_skip rfl) (l_q (q_skip rfl) (l_q (q_skip rfl) (l_q (q_skip rfl) (l_q (q_pick_t (v := .bool _) rfl rfl rfl) (l_nil (r_forget [(1, .pointer _), (3, .int _ _), (67, .bool _)] ⟨rfl, rfl, rfl, trivial⟩ (fun e22 => (r_cond_t rfl (r_seq (r_region' (l_q (qai rfl rfl) (l_nil (r_ret_ (vs := [.int _ _]) rfl Tryz.func5 rfl (.nil _) ⟨rfl, trivial⟩ ?_))))))))))))))))))))))))))
         exact ⟨vint_eq (faultS_1 (by omega) (fun h => by have h1 := h.at hkn; omega)).symm, Ext.of_below hB⟩
        ·
         replace hc21 := b2t (nf hc21)
         refine l_q (q_fieldAddr (o' := 1) rfl fld49_1 rfl) (l_q (q_load Tryz.isAgg3 rfl ((hb17.has (o := 1) rfl)) rfl) (l_q (q_fieldAddr (o' := 2) rfl fld49_2 rfl) (l_q (q_load Tryz.isAgg3 rfl ((hb17.has (o := 2) rfl)) rfl) (l_o (o_call Tryz.call20 rfl (in8_ret _ _ _ _) rfl ?_)))))
         rintro _ w23 ⟨rfl, rfl⟩
         refine l_q (q_not rfl rfl) (l_q (q_pick_f (v := .bool _) rfl rfl rfl) (l_q (qmb rfl rfl) (l_part 57 rfl (fun hc24 => ?_) (fun hc24 => ?_))))
         ·
          replace hc24 := b2f (nt hc24)
          refine l_q (q_skip rfl) (l_q (q_skip rfl) (l_q (q_skip rfl) (l_q (q_pick_t (v := .bool _) rfl rfl rfl) (l_q (qmb rfl rfl) (l_q (q_skip rfl) (l_q (q_skip rfl) (l_q (q_skip rfl) (l_q (q_skip rfl) (l_q (q_pick_t (v := .bool _) rfl rfl rfl) (l_nil (r_forget [(1, .pointer _), (3, .int _ _), (67, .bool _)] ⟨rfl, rfl, rfl, trivial⟩ (fun e25 => (r_cond_t rfl (r_seq (r_region' (l_q (qai rfl rfl) (l_nil (r_ret_ (vs := [.int _ _]) rfl Tryz.func5 rfl (.nil _) ⟨rfl, trivial⟩ ?_))))))))))))))))))
          exact ⟨vint_eq (faultS_1 (by omega) (fun h => by have h1 := h.at hkn; omega)).symm, Ext.of_below hB⟩
         ·
          replace hc24 := b2t (nf hc24)
          refine l_q (q_fieldAddr (o' := 2) rfl fld49_2 rfl) (l_q (q_load Tryz.isAgg3 rfl ((hb17.has (o := 2) rfl)) rfl) (l_q (q_gtr rfl rfl rfl) (l_q (q_pick_f (v := .bool _) rfl rfl rfl) (l_q (qmb rfl rfl) (l_part 62 rfl (fun hc26 => ?_) (fun hc26 => ?_))))))
          ·
           replace hc26 := dt hc26
           refine l_q (q_skip rfl) (l_q (q_skip rfl) (l_q (q_skip rfl) (l_q (q_skip rfl) (l_q (q_pick_t (v := .bool _) rfl rfl rfl) (l_nil (r_forget [(1, .pointer _), (3, .int _ _), (67, .bool _)] ⟨rfl, rfl, rfl, trivial⟩ (fun e27 => (r_cond_t rfl (r_seq (r_region' (l_q (qai rfl rfl) (l_nil (r_ret_ (vs := [.int _ _]) rfl Tryz.func5 rfl (.nil _) ⟨rfl, trivial⟩ ?_)))))))))))))
           exact ⟨vint_eq (faultS_1 (by omega) (fun h => by have h1 := h.at hkn; omega)).symm, Ext.of_below hB⟩
          ·
           replace hc26 := dlt hc26
           refine l_q (q_fieldAddr (o' := 3) rfl fld49_3 rfl) (l_q (q_load_agg (n := 2) Tryz.isAgg23 Tryz.sizeOf23 rfl ((hb17.cells' (cs' := [_, _]) 3 2 rfl)) rfl rfl) (l_o (o_call Tryz.call21 rfl (span8_ret _ _ _ _) rfl ?_)))
           rintro _ w28 ⟨rfl, hE28⟩
           replace hB := below_ext hB hE28 hsz
           replace hb1 := hb1.ext hE28
           replace hsz := Nat.le_trans hsz hE28.size
           refine l_q (q_not rfl rfl) (l_q (q_pick_f (v := .bool _) rfl rfl rfl) (l_nil (r_forget [(1, .pointer _), (3, .int _ _), (67, .bool _)] ⟨rfl, rfl, rfl, trivial⟩ (fun e29 => (r_cond rfl (fun hc30 => ?_) (fun hc30 => ?_))))))
           ·
            replace hc30 := df (nt hc30)
            refine r_seq (r_region' (l_q (qai rfl rfl) (l_nil (r_ret_ (vs := [.int _ _]) rfl Tryz.func5 rfl (.nil _) ⟨rfl, trivial⟩ ?_))))
            exact ⟨vint_eq (faultS_1 (by omega) (fun h => by have h1 := h.at hkn; omega)).symm, Ext.of_below hB⟩
           ·
            replace hc30 := dt (nf hc30)
            refine r_skip (r_inBlock (r_region' (l_q (qmi rfl rfl) (l_q (q_add rfl rfl (by omega) rfl) (l_q (qai rfl rfl) (l_nil ?_))))))
            exact ih14 (k + 1) _ _ ⟨⟨rfl, by first | rfl | exact vint_eq (by omega), trivial⟩, (by omega), (fun j hj => by rcases Nat.lt_succ_iff_lt_or_eq.1 hj with h | h; exact hno j h; subst h; exact okNight_iff.2 (by omega)), hb1, hsz, hB⟩ (by first | omega | (dsimp only; omega))
       ·
        replace hc15 := dlt hc15
        refine r_exit rfl (r_seq (r_region' (l_q (qai rfl rfl) (l_nil (r_ret_ (vs := [.int _ _]) rfl Tryz.func5 rfl (.nil _) ⟨rfl, trivial⟩ ?_)))))
        have hkk : k = ns.length := by omega
        subst hkk
        exact ⟨vint_eq (faultS_0 ⟨by omega, by omega, by omega, by omega, by omega, all_ix hno⟩).symm, Ext.of_below hB⟩
theorem isCans_ret (cap can s0 s1 : Int) (sa : Option Addr) (sc : Nat) (ns : List NT) (ka : Option Addr) (kc : Nat) (cs : List Int) (w : World) (hns : Row w sa ns.length sc 5 (ns.flatMap NT.enc)) (hnl : ns.length ≤ 2097152) (hcs : Row w ka cs.length kc 1 (cs.map vint)) (hcl : cs.length ≤ 2097152) : Ret Tryz.prog 6 [.agg ⟨[vint cap, vint can, vint s0, vint s1, .slice sa ns.length sc]⟩, .slice ka cs.length kc] w (fun v w' => v = .bool (decide (CansP ns cs)) ∧ Ext w w') := by
 have hB := Below.refl w.heap.size w
 have hsz : w.heap.size ≤ w.heap.size := Nat.le_refl _
 refine ret_of_runs (args := [_, _]) Tryz.func6 rfl (Nat.le_of_ble_eq_true rfl) (by kernel_rfl) (r_seq (r_region' (l_o (o_box rfl rfl rfl ?_))))
 intro b1 w1 hzl1 hzr1 _ hb1 hE1
 have hbs_b1 : w.heap.size ≤ b1 := Nat.le_trans hsz hzl1
 replace hB := below_ext hB hE1 hsz
 replace hsz := Nat.le_trans hsz hE1.size
 refine l_q (qab rfl rfl) (l_nil (r_seq (r_seq (r_region' (l_q (qai rfl rfl) (l_nil (r_block (r_rounds (α := Nat) (fun k e wl => Knows e [(1, .slice ka cs.length kc), (2, ptr b1 0), (5, vint (k : Int))] ∧ (k ≤ cs.length) ∧ (∀ j, j < k → 0 ≤ cs.getD j 0 ∧ cs.getD j 0 ≤ 2) ∧ (Blk wl b1 [vint cap, vint can, vint s0, vint s1, .slice sa ns.length sc]) ∧ (w.heap.size ≤ wl.heap.size) ∧ (Below w.heap.size w wl)) (fun k => cs.length - k) 0 ?_ ?_))))))))
 ·
  exact ⟨⟨rfl, rfl, rfl, trivial⟩, (Nat.zero_le _), (fun i hi => absurd hi (Nat.not_lt_zero _)), hb1, hsz, hB⟩
 ·
  rintro k el2 wl2 ⟨hkn, hkk, hno, hb1, hsz, hB⟩ ih2
  obtain ⟨e2, rfl⟩ := knows_env hkn
  refine r_seq (r_seq (r_region' (l_q (qmi rfl rfl) (l_q (qms rfl rfl) (l_q (q_len rfl Tryz.underlying27 rfl rfl) (l_q (q_lss rfl rfl rfl) (l_nil (r_cond rfl (fun hc3 => ?_) (fun hc3 => ?_)))))))))
  ·
   replace hc3 := dt hc3
   have hkc : k < cs.length := by omega
   refine r_skip (r_seq (r_block (r_seq (r_region' (l_q (qms rfl rfl) (l_q (qmi rfl rfl) ?_))))))
   obtain ⟨b4, o4, ha4, hh4⟩ := (hcs.below hB).at1 k ((cs).getD k 0) (getD_some (by omega))
   refine l_q (q_indexAddr1 Tryz.underlying27 Tryz.sizeOf3 rfl ha4 rfl (by omega) rfl) (l_q (q_load Tryz.isAgg3 rfl (hh4) rfl) (l_o (o_call Tryz.call20 rfl (in8_ret _ _ _ _) rfl ?_)))
   rintro _ w5 ⟨rfl, rfl⟩
   refine l_q (q_not rfl rfl) (l_nil (r_cond rfl (fun hc6 => ?_) (fun hc6 => ?_)))
   ·
    replace hc6 := b2f (nt hc6)
    refine r_seq (r_region' (l_q (qab rfl rfl) (l_nil (r_forget [(4, .bool _)] ⟨rfl, trivial⟩ (fun e7 => (r_ret_ (vs := [.bool _]) rfl Tryz.func6 rfl (.nil _) ⟨rfl, trivial⟩ ?_))))))
    exact ⟨vbool_eq (decide_eq_false (fun h => by have h1 := h.2 k hkc; omega)).symm, Ext.of_below hB⟩
   ·
    replace hc6 := b2t (nf hc6)
    refine r_skip (r_inBlock (r_region' (l_q (qmi rfl rfl) (l_q (q_add rfl rfl (by omega) rfl) (l_q (qai rfl rfl) (l_nil (r_forget [(1, .slice _ _ _), (2, .pointer _), (5, .int _ _)] ⟨rfl, rfl, rfl, trivial⟩ (fun e8 => ?_))))))))
    exact ih2 (k + 1) _ _ ⟨⟨rfl, rfl, by first | rfl | exact vint_eq (by omega), trivial⟩, (by omega), (fun j hj => by rcases Nat.lt_succ_iff_lt_or_eq.1 hj with h | h; exact hno j h; subst h; omega), hb1, hsz, hB⟩ (by first | omega | (dsimp only; omega))
  ·
   replace hc3 := dlt hc3
   refine r_exit rfl (r_seq (r_region' (l_q (qms rfl rfl) (l_q (q_len rfl Tryz.underlying27 rfl rfl) (l_q (q_fieldAddr (o' := 4) rfl fld26_3 rfl) (l_q (q_load Tryz.isAgg24 rfl ((hb1.has (o := 4) rfl)) rfl) (l_q (q_len rfl Tryz.underlying24 rfl rfl) (l_q (q_eql rfl rfl rfl) (l_q (qab rfl rfl) (l_nil (r_forget [(4, .bool _)] ⟨rfl, trivial⟩ (fun e9 => (r_ret_ (vs := [.bool _]) rfl Tryz.func6 rfl (.nil _) ⟨rfl, trivial⟩ ?_)))))))))))))
   have hkk : k = cs.length := by omega
   subst hkk
   exact ⟨vbool_eq (by rw [Bool.eq_iff_iff, decide_eq_true_iff, decide_eq_true_iff]; exact ⟨fun h => ⟨by omega, hno⟩, fun h => by have := h.1; omega⟩), Ext.of_below hB⟩
theorem isWicks_ret (cap can s0 s1 : Int) (sa : Option Addr) (sc : Nat) (ns : List NT) (va : Option Addr) (vc : Nat) (ws : List Int) (w : World) (hns : Row w sa ns.length sc 5 (ns.flatMap NT.enc)) (hnl : ns.length ≤ 2097152) (hws : Row w va ws.length vc 1 (ws.map vint)) (hwl : ws.length ≤ 2097152) : Ret Tryz.prog 11 [.agg ⟨[vint cap, vint can, vint s0, vint s1, .slice sa ns.length sc]⟩, .slice va ws.length vc] w (fun v w' => v = .bool (decide (WicksP ns ws)) ∧ Ext w w') := by
 have hB := Below.refl w.heap.size w
 have hsz : w.heap.size ≤ w.heap.size := Nat.le_refl _
 refine ret_of_runs (args := [_, _]) Tryz.func11 rfl (Nat.le_of_ble_eq_true rfl) (by kernel_rfl) (r_seq (r_region' (l_o (o_box rfl rfl rfl ?_))))
 intro b1 w1 hzl1 hzr1 _ hb1 hE1
 have hbs_b1 : w.heap.size ≤ b1 := Nat.le_trans hsz hzl1
 replace hB := below_ext hB hE1 hsz
 replace hsz := Nat.le_trans hsz hE1.size
 refine l_q (qab rfl rfl) (l_nil (r_seq (r_seq (r_region' (l_q (qai rfl rfl) (l_nil (r_block (r_rounds (α := Nat) (fun k e wl => Knows e [(1, .slice va ws.length vc), (2, ptr b1 0), (5, vint (k : Int))] ∧ (k ≤ ws.length) ∧ (k ≤ ns.length) ∧ (∀ j, j < k → (ns.getD j nt0).le ≤ ws.getD j 0 ∧ ws.getD j 0 ≤ (ns.getD j nt0).mo) ∧ (Blk wl b1 [vint cap, vint can, vint s0, vint s1, .slice sa ns.length sc]) ∧ (w.heap.size ≤ wl.heap.size) ∧ (Below w.heap.size w wl)) (fun k => ws.length - k) 0 ?_ ?_))))))))
 ·
  exact ⟨⟨rfl, rfl, rfl, trivial⟩, (Nat.zero_le _), (by omega), (fun i hi => absurd hi (Nat.not_lt_zero _)), hb1, hsz, hB⟩
 ·
  rintro k el2 wl2 ⟨hkn, hkk, hkm, hno, hb1, hsz, hB⟩ ih2
  obtain ⟨e2, rfl⟩ := knows_env hkn
  refine r_seq (r_seq (r_region' (l_q (qmi rfl rfl) (l_q (qms rfl rfl) (l_q (q_len rfl Tryz.underlying27 rfl rfl) (l_q (q_lss rfl rfl rfl) (l_q (qmb rfl rfl) (l_part 10 rfl (fun hc3 => ?_) (fun hc3 => ?_)))))))))
  ·
   replace hc3 := dt hc3
   refine l_q (qmi rfl rfl) (l_q (q_fieldAddr (o' := 4) rfl fld26_3 rfl) (l_q (q_load Tryz.isAgg24 rfl ((hb1.has (o := 4) rfl)) rfl) (l_q (q_len rfl Tryz.underlying24 rfl rfl) (l_q (q_lss rfl rfl rfl) (l_q (q_pick_t (v := .bool _) rfl rfl rfl) (l_nil (r_forget [(1, .slice _ _ _), (2, .pointer _), (5, .int _ _), (16, .bool _)] ⟨rfl, rfl, rfl, rfl, trivial⟩ (fun e4 => (r_cond rfl (fun hc5 => ?_) (fun hc5 => ?_))))))))))
   ·
    replace hc5 := dt hc5
    refine r_skip (r_seq (r_block (r_seq (r_draw ext_refl' ext_trans' [0, 1, 2, 3, 4, 5, 6, 7, 8, 9, 10, 11, 12, 13, 14, 15, 16, 17] [16] 2 (by kernel_rfl) (by kernel_rfl) ?_))))
    intro w6 _ hE6
    replace hB := below_ext hB hE6 hsz
    replace hb1 := hb1.ext hE6
    replace hsz := Nat.le_trans hsz hE6.size
    refine m_q rfl rfl (fun w' hC' => qms rfl rfl) (m_q rfl rfl (fun w' hC' => qmi rfl rfl) ?_)
    obtain ⟨b7, o7, ha7, hh7⟩ := (hws.below hB).at1 k ((ws).getD k 0) (getD_some (by omega))
    refine m_q rfl rfl (fun w' hC' => q_indexAddr1 Tryz.underlying27 Tryz.sizeOf3 rfl ha7 rfl (by omega) rfl) (m_q rfl rfl (fun w' hC' => q_load Tryz.isAgg3 rfl ((hh7.ext hC')) rfl) (m_q rfl rfl (fun w' hC' => q_fieldAddr (o' := 4) rfl fld26_3 rfl) (m_q rfl rfl (fun w' hC' => q_load Tryz.isAgg24 rfl (((hb1.has (o := 4) rfl).ext hC')) rfl) (m_q rfl rfl (fun w' hC' => qmi rfl rfl) ?_))))
    obtain ⟨b8, o8, ha8, hh8⟩ := (hns.below hB).at (by decide) k (by omega)
    refine m_q rfl rfl (fun w' hC' => q_indexAddr Tryz.underlying24 Tryz.sizeOf49 rfl ha8 rfl (by omega) rfl) (m_q rfl rfl (fun w' hC' => q_fieldAddr (o' := 1) rfl fld49_1 rfl) (m_q rfl rfl (fun w' hC' => q_load Tryz.isAgg3 rfl ((((cells_cast (wide_at NT.len nt0 _ _ (by omega)) hh8) 1 _ rfl).ext hC')) rfl) (m_q rfl rfl (fun w' hC' => q_fieldAddr (o' := 4) rfl fld26_3 rfl) (m_q rfl rfl (fun w' hC' => q_load Tryz.isAgg24 rfl (((hb1.has (o := 4) rfl).ext hC')) rfl) (m_q rfl rfl (fun w' hC' => qmi rfl rfl) ?_)))))
    obtain ⟨b9, o9, ha9, hh9⟩ := (hns.below hB).at (by decide) k (by omega)
    refine m_q rfl rfl (fun w' hC' => q_indexAddr Tryz.underlying24 Tryz.sizeOf49 rfl ha9 rfl (by omega) rfl) (m_q rfl rfl (fun w' hC' => q_fieldAddr (o' := 2) rfl fld49_2 rfl) (m_q rfl rfl (fun w' hC' => q_load Tryz.isAgg3 rfl ((((cells_cast (wide_at NT.len nt0 _ _ (by omega)) hh9) 2 _ rfl).ext hC')) rfl) (m_o rfl rfl (o_call Tryz.call20 rfl (in8_ret _ _ _ _) rfl ?_))))
    rintro _ w10 ⟨rfl, rfl⟩
    refine ⟨Ext.refl _, ?_⟩
    refine m_q rfl rfl (fun w' hC' => q_not rfl rfl) (m_nil (r_forget [(1, .slice _ _ _), (2, .pointer _), (5, .int _ _), (36, .bool _)] ⟨rfl, rfl, rfl, rfl, trivial⟩ (fun e11 => (r_cond rfl (fun hc12 => ?_) (fun hc12 => ?_)))))
    ·
     replace hc12 := b2f (nt hc12)
     refine r_seq (r_region' (l_q (qab rfl rfl) (l_nil (r_ret_ (vs := [.bool _]) rfl Tryz.func11 rfl (.nil _) ⟨rfl, trivial⟩ ?_))))
     exact ⟨vbool_eq (decide_eq_false (fun h => by have h0 := h.1; have h1 := h.2 k (by omega); omega)).symm, Ext.of_below hB⟩
    ·
     replace hc12 := b2t (nf hc12)
     refine r_skip (r_inBlock (r_region' (l_q (qmi rfl rfl) (l_q (q_add rfl rfl (by omega) rfl) (l_q (qai rfl rfl) (l_nil ?_))))))
     exact ih2 (k + 1) _ _ ⟨⟨rfl, rfl, by first | rfl | exact vint_eq (by omega), trivial⟩, (by omega), (by omega), (fun j hj => by rcases Nat.lt_succ_iff_lt_or_eq.1 hj with h | h; exact hno j h; subst h; omega), hb1, hsz, hB⟩ (by first | omega | (dsimp only; omega))
   ·
    replace hc5 := dlt hc5
    refine r_exit rfl (r_seq (r_region' (l_q (qms rfl rfl) (l_q (q_len rfl Tryz.underlying27 rfl rfl) (l_q (q_fieldAddr (o' := 4) rfl fld26_3 rfl) (l_q (q_load Tryz.isAgg24 rfl ((hb1.has (o := 4) rfl)) rfl) (l_q (q_len rfl Tryz.underlying24 rfl rfl) (l_q (q_eql rfl rfl rfl) (l_q (qab rfl rfl) (l_nil (r_forget [(4, .bool _)] ⟨rfl, trivial⟩ (fun e13 => (r_ret_ (vs := [.bool _]) rfl Tryz.func11 rfl (.nil _) ⟨rfl, trivial⟩ ?_)))))))))))))
    exact ⟨vbool_eq (by rw [Bool.eq_iff_iff, decide_eq_true_iff, decide_eq_true_iff]; exact ⟨fun h => ⟨by omega, fun j hj => hno j (by omega)⟩, fun h => by have := h.1; omega⟩), Ext.of_below hB⟩
  ·
   replace hc3 := dlt hc3
   refine l_q (q_skip rfl) (l_q (q_skip rfl) (l_q (q_skip rfl) (l_q (q_skip rfl) (l_q (q_skip rfl) (l_q (q_pick_f (v := .bool _) rfl rfl rfl) (l_nil (r_forget [(1, .slice _ _ _), (2, .pointer _), (5, .int _ _), (16, .bool _)] ⟨rfl, rfl, rfl, rfl, trivial⟩ (fun e14 => (r_cond_f rfl (r_exit rfl (r_seq (r_region' (l_q (qms rfl rfl) (l_q (q_len rfl Tryz.underlying27 rfl rfl) (l_q (q_fieldAddr (o' := 4) rfl fld26_3 rfl) (l_q (q_load Tryz.isAgg24 rfl ((hb1.has (o := 4) rfl)) rfl) (l_q (q_len rfl Tryz.underlying24 rfl rfl) (l_q (q_eql rfl rfl rfl) (l_q (qab rfl rfl) (l_nil (r_forget [(4, .bool _)] ⟨rfl, trivial⟩ (fun e15 => (r_ret_ (vs := [.bool _]) rfl Tryz.func11 rfl (.nil _) ⟨rfl, trivial⟩ ?_)))))))))))))))))))))))
   exact ⟨vbool_eq (by rw [Bool.eq_iff_iff, decide_eq_true_iff, decide_eq_true_iff]; exact ⟨fun h => ⟨by omega, fun j hj => hno j (by omega)⟩, fun h => by have := h.1; omega⟩), Ext.of_below hB⟩
theorem thin8_ret (cap can s0 s1 : Int) (sa : Option Addr) (sc : Nat) (ns : List NT) (ka : Option Addr) (kc : Nat) (cs : List Int) (va : Option Addr) (vc : Nat) (ws : List Int) (w : World) : Ret Tryz.prog 4 [.agg ⟨[vint cap, vint can, vint s0, vint s1, .slice sa ns.length sc]⟩, .agg ⟨[.slice ka cs.length kc, .slice va ws.length vc]⟩] w (fun v w' => v = .bool (decide (ns.length ≤ 9 ∧ cs.length ≤ 9 ∧ ws.length ≤ 9)) ∧ Ext w w') := by
 have hB := Below.refl w.heap.size w
 have hsz : w.heap.size ≤ w.heap.size := Nat.le_refl _
 refine ret_of_runs (args := [_, _]) Tryz.func4 rfl (Nat.le_of_ble_eq_true rfl) (by kernel_rfl) (r_seq (r_region' (l_o (o_box rfl rfl rfl ?_))))
 intro b1 w1 hzl1 hzr1 _ hb1 hE1
 have hbs_b1 : w.heap.size ≤ b1 := Nat.le_trans hsz hzl1
 replace hB := below_ext hB hE1 hsz
 replace hsz := Nat.le_trans hsz hE1.size
 refine l_o (o_box rfl rfl rfl ?_)
 intro b2 w2 hzl2 hzr2 _ hb2 hE2
 have hbs_b2 : w.heap.size ≤ b2 := Nat.le_trans hsz hzl2
 replace hB := below_ext hB hE2 hsz
 replace hb1 := hb1.ext hE2
 replace hsz := Nat.le_trans hsz hE2.size
 refine l_q (qab rfl rfl) (l_nil (r_seq (r_region' (l_q (q_fieldAddr (o' := 4) rfl fld26_3 rfl) (l_q (q_load Tryz.isAgg24 rfl ((hb1.has (o := 4) rfl)) rfl) (l_q (q_len rfl Tryz.underlying24 rfl rfl) (l_q (q_leq rfl rfl rfl) (l_q (qmb rfl rfl) (l_part 9 rfl (fun hc3 => ?_) (fun hc3 => ?_))))))))))
 ·
  replace hc3 := dt hc3
  refine l_q (q_fieldAddr (o' := 0) rfl fld29_0 rfl) (l_q (q_load Tryz.isAgg27 rfl ((hb2.has (o := 0) rfl)) rfl) (l_q (q_len rfl Tryz.underlying27 rfl rfl) (l_q (q_leq rfl rfl rfl) (l_q (q_pick_t (v := .bool _) rfl rfl rfl) (l_q (qmb rfl rfl) (l_part 15 rfl (fun hc4 => ?_) (fun hc4 => ?_)))))))
  ·
   replace hc4 := dt hc4
   refine l_q (q_fieldAddr (o' := 1) rfl fld29_1 rfl) (l_q (q_load Tryz.isAgg27 rfl ((hb2.has (o := 1) rfl)) rfl) (l_q (q_len rfl Tryz.underlying27 rfl rfl) (l_q (q_leq rfl rfl rfl) (l_q (q_pick_t (v := .bool _) rfl rfl rfl) (l_q (qab rfl rfl) (l_nil (r_forget [(4, .bool _)] ⟨rfl, trivial⟩ (fun e5 => (r_ret_ (vs := [.bool _]) rfl Tryz.func4 rfl (.nil _) ⟨rfl, trivial⟩ ?_)))))))))
   exact ⟨vbool_eq (by symm; first | (apply decide_eq_true; omega) | (apply decide_eq_false; omega) | (rw [Bool.eq_iff_iff]; simp <;> omega)), Ext.of_below hB⟩
  ·
   replace hc4 := dle hc4
   refine l_q (q_skip rfl) (l_q (q_skip rfl) (l_q (q_skip rfl) (l_q (q_skip rfl) (l_q (q_pick_f (v := .bool _) rfl rfl rfl) (l_q (qab rfl rfl) (l_nil (r_forget [(4, .bool _)] ⟨rfl, trivial⟩ (fun e6 => (r_ret_ (vs := [.bool _]) rfl Tryz.func4 rfl (.nil _) ⟨rfl, trivial⟩ ?_)))))))))
   exact ⟨vbool_eq (by symm; first | (apply decide_eq_true; omega) | (apply decide_eq_false; omega) | (rw [Bool.eq_iff_iff]; simp <;> omega)), Ext.of_below hB⟩
 ·
  replace hc3 := dle hc3
  refine l_q (q_skip rfl) (l_q (q_skip rfl) (l_q (q_skip rfl) (l_q (q_skip rfl) (l_q (q_pick_f (v := .bool _) rfl rfl rfl) (l_q (qmb rfl rfl) (l_q (q_skip rfl) (l_q (q_skip rfl) (l_q (q_skip rfl) (l_q (q_skip rfl) (l_q (q_pick_f (v := .bool _) rfl rfl rfl) (l_q (qab rfl rfl) (l_nil (r_forget [(4, .bool _)] ⟨rfl, trivial⟩ (fun e7 => (r_ret_ (vs := [.bool _]) rfl Tryz.func4 rfl (.nil _) ⟨rfl, trivial⟩ ?_)))))))))))))))
  exact ⟨vbool_eq (by symm; first | (apply decide_eq_true; omega) | (apply decide_eq_false; omega) | (rw [Bool.eq_iff_iff]; simp <;> omega)), Ext.of_below hB⟩
theorem cans1_ret (n : Int) (w : World) : Ret Tryz.prog 55 [vint n] w (fun v w' => v = .bool (decide (0 ≤ n) && decide (n ≤ 2)) ∧ w = w') := by
 have hB := Below.refl w.heap.size w
 have hsz : w.heap.size ≤ w.heap.size := Nat.le_refl _
 refine ret_of_runs (args := [_]) Tryz.func55 rfl (Nat.le_of_ble_eq_true rfl) (by kernel_rfl) (r_seq (r_region' (l_q (qab rfl rfl) (l_nil (r_seq (r_region' (l_q (qmi rfl rfl) (l_o (o_call Tryz.call50 rfl (lwithin_ret _ _ _ _) rfl ?_)))))))))
 rintro _ w1 ⟨rfl, rfl⟩
 refine l_q (qab rfl rfl) (l_nil (r_ret_ (vs := [.bool _]) rfl Tryz.func55 rfl (.nil _) ⟨rfl, trivial⟩ ?_))
 exact ⟨rfl, rfl⟩
theorem cans_ret (cap can s0 s1 : Int) (sa : Option Addr) (sc : Nat) (ns : List NT) (ka : Option Addr) (kc : Nat) (cs : List Int) (w : World) (hns : Row w sa ns.length sc 5 (ns.flatMap NT.enc)) (hnl : ns.length ≤ 2097152) (hcs : Row w ka cs.length kc 1 (cs.map vint)) (hcl : cs.length ≤ 2097152) : Ret Tryz.prog 24 [.agg ⟨[vint cap, vint can, vint s0, vint s1, .slice sa ns.length sc]⟩, .slice ka cs.length kc] w (fun v w' => v = .bool (decide (CansP ns cs)) ∧ Ext w w') := by
 have hB := Below.refl w.heap.size w
 have hsz : w.heap.size ≤ w.heap.size := Nat.le_refl _
 refine ret_of_runs (args := [_, _]) Tryz.func24 rfl (Nat.le_of_ble_eq_true rfl) (by kernel_rfl) (r_seq (r_region' (l_o (o_box rfl rfl rfl ?_))))
 intro b1 w1 hzl1 hzr1 _ hb1 hE1
 have hbs_b1 : w.heap.size ≤ b1 := Nat.le_trans hsz hzl1
 replace hB := below_ext hB hE1 hsz
 replace hsz := Nat.le_trans hsz hE1.size
 refine l_q (qab rfl rfl) (l_nil (r_seq (r_region' (l_q (qms rfl rfl) (l_q (q_len rfl Tryz.underlying27 rfl rfl) (l_q (q_fieldAddr (o' := 4) rfl fld46_3 rfl) (l_q (q_load Tryz.isAgg44 rfl ((hb1.has (o := 4) rfl)) rfl) (l_q (q_len rfl Tryz.underlying44 rfl rfl) (l_q (q_eql rfl rfl rfl) (l_q (qmb rfl rfl) (l_part 11 rfl (fun hc2 => ?_) (fun hc2 => ?_))))))))))))
 ·
  replace hc2 := dt hc2
  refine l_q (qms rfl rfl) (l_o (o_call Tryz.call54 rfl (all_lint_of 0 (q := fun n => decide (0 ≤ n) && decide (n ≤ 2)) Tryz.call55 (hcs.below hB) (fun w' hw x hx => (cans1_ret x w').mono (fun v w2 h => ⟨h.1, h.2 ▸ Ext.refl _⟩)) (by omega)) rfl ?_))
  rintro _ w3 ⟨rfl, hE3⟩
  replace hB := below_ext hB hE3 hsz
  replace hsz := Nat.le_trans hsz hE3.size
  refine l_q (q_pick_t (v := .bool _) rfl rfl rfl) (l_q (qab rfl rfl) (l_nil (r_forget [(4, .bool _)] ⟨rfl, trivial⟩ (fun e4 => (r_ret_ (vs := [.bool _]) rfl Tryz.func24 rfl (.nil _) ⟨rfl, trivial⟩ ?_)))))
  exact ⟨vbool_eq (by first | exact can_all (fun x => by rw [Bool.and_eq_true, decide_eq_true_iff, decide_eq_true_iff]) (by omega) | exact (decide_eq_false (fun h => by have := h.1; omega)).symm), Ext.of_below hB⟩
 ·
  replace hc2 := df hc2
  refine l_q (q_skip rfl) (l_q (q_skip rfl) (l_q (q_pick_f (v := .bool _) rfl rfl rfl) (l_q (qab rfl rfl) (l_nil (r_forget [(4, .bool _)] ⟨rfl, trivial⟩ (fun e5 => (r_ret_ (vs := [.bool _]) rfl Tryz.func24 rfl (.nil _) ⟨rfl, trivial⟩ ?_)))))))
  exact ⟨vbool_eq (by first | exact can_all (fun x => by rw [Bool.and_eq_true, decide_eq_true_iff, decide_eq_true_iff]) (by omega) | exact (decide_eq_false (fun h => by have := h.1; omega)).symm), Ext.of_below hB⟩
theorem wicks_ret (cap can s0 s1 : Int) (sa : Option Addr) (sc : Nat) (ns : List NT) (va : Option Addr) (vc : Nat) (ws : List Int) (w : World) (hns : Row w sa ns.length sc 5 (ns.flatMap NT.enc)) (hnl : ns.length ≤ 2097152) (hws : Row w va ws.length vc 1 (ws.map vint)) (hwl : ws.length ≤ 2097152) : Ret Tryz.prog 58 [.agg ⟨[vint cap, vint can, vint s0, vint s1, .slice sa ns.length sc]⟩, .slice va ws.length vc] w (fun v w' => v = .bool (decide (WicksP ns ws)) ∧ Ext w w') := by
 have hB := Below.refl w.heap.size w
 have hsz : w.heap.size ≤ w.heap.size := Nat.le_refl _
 refine ret_of_runs (args := [_, _]) Tryz.func58 rfl (Nat.le_of_ble_eq_true rfl) (by kernel_rfl) (r_seq (r_region' (l_o (o_box rfl rfl rfl ?_))))
 intro b1 w1 hzl1 hzr1 _ hb1 hE1
 have hbs_b1 : w.heap.size ≤ b1 := Nat.le_trans hsz hzl1
 replace hB := below_ext hB hE1 hsz
 replace hsz := Nat.le_trans hsz hE1.size
 refine l_q (qab rfl rfl) (l_nil (r_seq (r_seq (r_region' (l_q (qms rfl rfl) (l_q (q_len rfl Tryz.underlying27 rfl rfl) (l_q (q_fieldAddr (o' := 4) rfl fld46_3 rfl) (l_q (q_load Tryz.isAgg44 rfl ((hb1.has (o := 4) rfl)) rfl) (l_q (q_len rfl Tryz.underlying44 rfl rfl) (l_q (q_neq rfl rfl rfl) (l_nil (r_cond rfl (fun hc2 => ?_) (fun hc2 => ?_)))))))))))))
 ·
  replace hc2 := df (nt hc2)
  refine r_seq (r_region' (l_q (qab rfl rfl) (l_nil (r_ret_ (vs := [.bool _]) rfl Tryz.func58 rfl (.nil _) ⟨rfl, trivial⟩ ?_))))
  exact ⟨vbool_eq (decide_eq_false (fun h => by have := h.1; omega)).symm, Ext.of_below hB⟩
 ·
  replace hc2 := dt (nf hc2)
  have hwn : ws.length = ns.length := by omega
  refine r_skip (r_seq (r_seq (r_region' (l_q (q_fieldAddr (o' := 4) rfl fld46_3 rfl) (l_q (q_load Tryz.isAgg44 rfl ((hb1.has (o := 4) rfl)) rfl) (l_q (q_len rfl Tryz.underlying44 rfl rfl) (l_q (qmi rfl rfl) (l_nil (r_forget [(1, .slice _ _ _), (14, .slice _ _ _), (15, .int _ _), (16, .int _ _)] ⟨rfl, rfl, rfl, rfl, trivial⟩ (fun e3 => (r_block (r_rounds (α := Nat) (fun k e wl => Knows e [(1, .slice va ws.length vc), (14, .slice sa ns.length sc), (15, vint (ns.length : Int)), (16, vint (k : Int))] ∧ (k ≤ ns.length) ∧ (∀ j, j < k → (ns.getD j nt0).le ≤ ws.getD j 0 ∧ ws.getD j 0 ≤ (ns.getD j nt0).mo) ∧ (Blk wl b1 [vint cap, vint can, vint s0, vint s1, .slice sa ns.length sc]) ∧ (w.heap.size ≤ wl.heap.size) ∧ (Below w.heap.size w wl)) (fun k => ns.length - k) 0 ?_ ?_))))))))))))
  ·
   exact ⟨⟨rfl, rfl, rfl, rfl, trivial⟩, (Nat.zero_le _), (fun i hi => absurd hi (Nat.not_lt_zero _)), hb1, hsz, hB⟩
  ·
   rintro k el4 wl4 ⟨hkn, hkk, hno, hb1, hsz, hB⟩ ih4
   obtain ⟨e4, rfl⟩ := knows_env hkn
   refine r_seq (r_region' (l_q (q_lss rfl rfl rfl) (l_nil (r_seq (r_cond rfl (fun hc5 => ?_) (fun hc5 => ?_))))))
   ·
    replace hc5 := dt hc5
    have hkn : k < ns.length := by omega
    refine r_skip (r_seq (r_block (r_seq (r_region' (l_q (qmi rfl rfl) ?_)))))
    obtain ⟨b6, o6, ha6, hh6⟩ := (hns.below hB).at (by decide) k (by omega)
    refine l_q (q_indexAddr Tryz.underlying44 Tryz.sizeOf75 rfl ha6 rfl (by omega) rfl) (l_q (q_load_agg (cs := [vint (((ns).getD k nt0).h), vint (((ns).getD k nt0).le), vint (((ns).getD k nt0).mo), vint (((ns).getD k nt0).lo), vint (((ns).getD k nt0).hi)]) (n := 5) Tryz.isAgg75 Tryz.sizeOf75 rfl ((cells_cast (wide_at NT.len nt0 _ _ (by omega)) hh6)) rfl rfl) (l_o (o_alloc Tryz.zeroValue75 rfl rfl ?_)))
    intro b7 w7 hzl7 hzr7 _ hb7 hE7
    have hne_b1_b7 : b1 ≠ b7 := by have := hb1.lt; omega
    have hbs_b7 : w.heap.size ≤ b7 := Nat.le_trans hsz hzl7
    replace hB := below_ext hB hE7 hsz
    replace hb1 := hb1.ext hE7
    replace hsz := Nat.le_trans hsz hE7.size
    refine l_q (qai rfl rfl) (l_o (o_store (vs := [vint (((ns).getD k nt0).h), vint (((ns).getD k nt0).le), vint (((ns).getD k nt0).mo), vint (((ns).getD k nt0).lo), vint (((ns).getD k nt0).hi)]) (cs' := [vint (((ns).getD k nt0).h), vint (((ns).getD k nt0).le), vint (((ns).getD k nt0).mo), vint (((ns).getD k nt0).lo), vint (((ns).getD k nt0).hi)]) Tryz.sizeOf75 rfl rfl rfl rfl hb7 (Nat.le_of_ble_eq_true rfl) rfl rfl ?_))
    intro w8 hz8 hb7 hG8
    replace hB := below_upd hB hG8 hsz (by omega)
    replace hsz : w.heap.size ≤ w8.heap.size := by rw [hz8]; exact hsz
    replace hb1 := hb1.upd hG8 (by omega)
    refine l_nil (r_seq (r_draw ext_refl' ext_trans' [0, 1, 2, 3, 4, 5, 6, 7, 8, 9] [8] 2 (by kernel_rfl) (by kernel_rfl) ?_))
    intro w9 _ hE9
    replace hB := below_ext hB hE9 hsz
    replace hb1 := hb1.ext hE9
    replace hb7 := hb7.ext hE9
    replace hsz := Nat.le_trans hsz hE9.size
    refine m_q rfl rfl (fun w' hC' => qms rfl rfl) (m_q rfl rfl (fun w' hC' => qmi rfl rfl) ?_)
    obtain ⟨b10, o10, ha10, hh10⟩ := (hws.below hB).at1 k ((ws).getD k 0) (getD_some (by omega))
    refine m_q rfl rfl (fun w' hC' => q_indexAddr1 Tryz.underlying27 Tryz.sizeOf3 rfl ha10 rfl (by omega) rfl) (m_q rfl rfl (fun w' hC' => q_load Tryz.isAgg3 rfl ((hh10.ext hC')) rfl) (m_q rfl rfl (fun w' hC' => q_fieldAddr (o' := 1) rfl fld75_1 rfl) (m_q rfl rfl (fun w' hC' => q_load Tryz.isAgg3 rfl (((hb7.has (o := 1) rfl).ext hC')) rfl) (m_q rfl rfl (fun w' hC' => q_fieldAddr (o' := 2) rfl fld75_2 rfl) (m_q rfl rfl (fun w' hC' => q_load Tryz.isAgg3 rfl (((hb7.has (o := 2) rfl).ext hC')) rfl) (m_o rfl rfl (o_call Tryz.call50 rfl (lwithin_ret _ _ _ _) rfl ?_)))))))
    rintro _ w11 ⟨rfl, rfl⟩
    refine ⟨Ext.refl _, ?_⟩
    refine m_q rfl rfl (fun w' hC' => q_not rfl rfl) (m_nil (r_forget [(1, .slice _ _ _), (14, .slice _ _ _), (15, .int _ _), (16, .int _ _), (30, .bool _)] ⟨rfl, rfl, rfl, rfl, rfl, trivial⟩ (fun e12 => (r_cond rfl (fun hc13 => ?_) (fun hc13 => ?_)))))
    ·
     replace hc13 := b2f (nt hc13)
     refine r_seq (r_region' (l_q (qab rfl rfl) (l_nil (r_ret_ (vs := [.bool _]) rfl Tryz.func58 rfl (.nil _) ⟨rfl, trivial⟩ ?_))))
     exact ⟨vbool_eq (decide_eq_false (fun h => by have h1 := h.2 k hkn; omega)).symm, Ext.of_below hB⟩
    ·
     replace hc13 := b2t (nf hc13)
     refine r_skip (r_inBlock (r_region' (l_q (q_add rfl rfl (by omega) rfl) (l_q (qmi rfl rfl) (l_nil ?_)))))
     exact ih4 (k + 1) _ _ ⟨⟨rfl, rfl, rfl, by first | rfl | exact vint_eq (by omega), trivial⟩, (by omega), (fun j hj => by rcases Nat.lt_succ_iff_lt_or_eq.1 hj with h | h; exact hno j h; subst h; omega), hb1, hsz, hB⟩ (by first | omega | (dsimp only; omega))
   ·
    replace hc5 := dlt hc5
    refine r_exit rfl (r_seq (r_region' (l_q (qab rfl rfl) (l_nil (r_ret_ (vs := [.bool _]) rfl Tryz.func58 rfl (.nil _) ⟨rfl, trivial⟩ ?_)))))
    have hkk : k = ns.length := by omega
    subst hkk
    exact ⟨vbool_eq (decide_eq_true (⟨hwn, hno⟩ : WicksP ns ws)).symm, Ext.of_below hB⟩
theorem lcheck_ret (cap can s0 s1 : Int) (sa : Option Addr) (sc : Nat) (ns : List NT) (ka : Option Addr) (kc : Nat) (cs : List Int) (va : Option Addr) (vc : Nat) (ws : List Int) (w : World) (hns : Row w sa ns.length sc 5 (ns.flatMap NT.enc)) (hnl : ns.length ≤ 2097152) (hcs : Row w ka cs.length kc 1 (cs.map vint)) (hcl : cs.length ≤ 2097152) (hws : Row w va ws.length vc 1 (ws.map vint)) (hwl : ws.length ≤ 2097152) : Ret Tryz.prog 34 [.agg ⟨[vint cap, vint can, vint s0, vint s1, .slice sa ns.length sc]⟩, .agg ⟨[.slice ka cs.length kc, .slice va ws.length vc]⟩] w (fun v w' => v = vint (if faultS cap can s0 s1 ns = 0 then (if CansP ns cs ∧ WicksP ns ws then 0 else 2) else faultS cap can s0 s1 ns) ∧ Ext w w') := by
 have hB := Below.refl w.heap.size w
 have hsz : w.heap.size ≤ w.heap.size := Nat.le_refl _
 refine ret_of_runs (args := [_, _]) Tryz.func34 rfl (Nat.le_of_ble_eq_true rfl) (by kernel_rfl) (r_seq (r_region' (l_o (o_box rfl rfl rfl ?_))))
 intro b1 w1 hzl1 hzr1 _ hb1 hE1
 have hbs_b1 : w.heap.size ≤ b1 := Nat.le_trans hsz hzl1
 replace hB := below_ext hB hE1 hsz
 replace hsz := Nat.le_trans hsz hE1.size
 refine l_o (o_box rfl rfl rfl ?_)
 intro b2 w2 hzl2 hzr2 _ hb2 hE2
 have hbs_b2 : w.heap.size ≤ b2 := Nat.le_trans hsz hzl2
 replace hB := below_ext hB hE2 hsz
 replace hb1 := hb1.ext hE2
 replace hsz := Nat.le_trans hsz hE2.size
 refine l_q (qai rfl rfl) (l_nil (r_seq (r_seq (r_region' (l_q (q_load_agg (n := 5) Tryz.isAgg46 Tryz.sizeOf46 rfl ((hb1.cells' (cs' := [_, _, _, _, _]) 0 5 rfl)) rfl rfl) (l_o (o_call Tryz.call23 rfl (checkStore_ret cap can s0 s1 sa sc ns _ (hns.below hB) hnl) rfl ?_)))))))
 rintro _ w3 ⟨rfl, hE3⟩
 replace hB := below_ext hB hE3 hsz
 replace hb1 := hb1.ext hE3
 replace hb2 := hb2.ext hE3
 replace hsz := Nat.le_trans hsz hE3.size
 refine l_q (qai rfl rfl) (l_nil (r_seq (r_region' (l_q (qmi rfl rfl) (l_q (q_neq rfl rfl rfl) (l_nil (r_cond rfl (fun hc4 => ?_) (fun hc4 => ?_))))))))
 ·
  replace hc4 := df (nt hc4)
  have g9 := hc4
  refine r_seq (r_region' (l_q (qmi rfl rfl) (l_q (qai rfl rfl) (l_nil (r_forget [(4, .int _ _)] ⟨rfl, trivial⟩ (fun e5 => (r_ret_ (vs := [.int _ _]) rfl Tryz.func34 rfl (.nil _) ⟨rfl, trivial⟩ ?_)))))))
  exact ⟨vint_eq (by rw [if_neg g9]), Ext.of_below hB⟩
 ·
  replace hc4 := dt (nf hc4)
  have g9 := hc4
  refine r_skip (r_seq (r_seq (r_region' (l_q (q_load_agg (n := 5) Tryz.isAgg46 Tryz.sizeOf46 rfl ((hb1.cells' (cs' := [_, _, _, _, _]) 0 5 rfl)) rfl rfl) (l_q (q_fieldAddr (o' := 0) rfl fld57_0 rfl) (l_q (q_load Tryz.isAgg27 rfl ((hb2.has (o := 0) rfl)) rfl) (l_o (o_call Tryz.call24 rfl (cans_ret cap can s0 s1 sa sc ns ka kc cs _ (hns.below hB) hnl (hcs.below hB) hcl) rfl ?_))))))))
  rintro _ w6 ⟨rfl, hE6⟩
  replace hB := below_ext hB hE6 hsz
  replace hb1 := hb1.ext hE6
  replace hb2 := hb2.ext hE6
  replace hsz := Nat.le_trans hsz hE6.size
  refine l_q (q_not rfl rfl) (l_q (qmb rfl rfl) (l_part 16 rfl (fun hc7 => ?_) (fun hc7 => ?_)))
  ·
   replace hc7 := df (nt hc7)
   have g16 := hc7
   refine l_q (q_skip rfl) (l_q (q_skip rfl) (l_q (q_skip rfl) (l_q (q_skip rfl) (l_q (q_skip rfl) (l_q (q_pick_t (v := .bool _) rfl rfl rfl) (l_nil (r_forget [(22, .bool _)] ⟨rfl, trivial⟩ (fun e8 => (r_cond_t rfl (r_seq (r_region' (l_q (qai rfl rfl) (l_nil (r_ret_ (vs := [.int _ _]) rfl Tryz.func34 rfl (.nil _) ⟨rfl, trivial⟩ ?_))))))))))))))
   exact ⟨vint_eq (by rw [if_pos (by simpa using g9), if_neg (fun h => by simp_all)]), Ext.of_below hB⟩
  ·
   replace hc7 := dt (nf hc7)
   have g16 := hc7
   refine l_q (q_load_agg (n := 5) Tryz.isAgg46 Tryz.sizeOf46 rfl ((hb1.cells' (cs' := [_, _, _, _, _]) 0 5 rfl)) rfl rfl) (l_q (q_fieldAddr (o' := 1) rfl fld57_1 rfl) (l_q (q_load Tryz.isAgg27 rfl ((hb2.has (o := 1) rfl)) rfl) (l_o (o_call Tryz.call58 rfl (wicks_ret cap can s0 s1 sa sc ns va vc ws _ (hns.below hB) hnl (hws.below hB) hwl) rfl ?_))))
   rintro _ w9 ⟨rfl, hE9⟩
   replace hB := below_ext hB hE9 hsz
   replace hsz := Nat.le_trans hsz hE9.size
   refine l_q (q_not rfl rfl) (l_q (q_pick_f (v := .bool _) rfl rfl rfl) (l_nil (r_forget [(22, .bool _)] ⟨rfl, trivial⟩ (fun e10 => (r_cond rfl (fun hc11 => ?_) (fun hc11 => ?_))))))
   ·
    replace hc11 := df (nt hc11)
    have g22 := hc11
    refine r_seq (r_region' (l_q (qai rfl rfl) (l_nil (r_ret_ (vs := [.int _ _]) rfl Tryz.func34 rfl (.nil _) ⟨rfl, trivial⟩ ?_))))
    exact ⟨vint_eq (by rw [if_pos (by simpa using g9), if_neg (fun h => by simp_all)]), Ext.of_below hB⟩
   ·
    replace hc11 := dt (nf hc11)
    have g22 := hc11
    refine r_skip (r_seq (r_region' (l_q (qai rfl rfl) (l_nil (r_ret_ (vs := [.int _ _]) rfl Tryz.func34 rfl (.nil _) ⟨rfl, trivial⟩ ?_)))))
    exact ⟨vint_eq (by rw [if_pos (by simpa using g9), if_pos (by simp_all)]), Ext.of_below hB⟩
theorem ltruth_ret (cap can s0 s1 : Int) (sa : Option Addr) (sc : Nat) (ns : List NT) (st : Int) (ba : Option Addr) (bc : Nat) (bs : List Int) (w : World) (hns : Row w sa ns.length sc 5 (ns.flatMap NT.enc)) (hnl : ns.length ≤ 2097152) (hbs : Row w ba bs.length bc 1 (bs.map vint)) (hbl : bs.length ≤ 2097152) : Ret Tryz.prog 35 [.agg ⟨[vint cap, vint can, vint s0, vint s1, .slice sa ns.length sc]⟩, .agg ⟨[vint st, .slice ba bs.length bc]⟩] w (fun v w' => v = .bool (decide ((s0 ≤ st ∧ st ≤ s1) ∧ BurnP ns bs)) ∧ Ext w w') := by
 have hB := Below.refl w.heap.size w
 have hsz : w.heap.size ≤ w.heap.size := Nat.le_refl _
 refine ret_of_runs (args := [_, _]) Tryz.func35 rfl (Nat.le_of_ble_eq_true rfl) (by kernel_rfl) (r_seq (r_region' (l_o (o_box rfl rfl rfl ?_))))
 intro b1 w1 hzl1 hzr1 _ hb1 hE1
 have hbs_b1 : w.heap.size ≤ b1 := Nat.le_trans hsz hzl1
 replace hB := below_ext hB hE1 hsz
 replace hsz := Nat.le_trans hsz hE1.size
 refine l_o (o_box rfl rfl rfl ?_)
 intro b2 w2 hzl2 hzr2 _ hb2 hE2
 have hne_b1_b2 : b1 ≠ b2 := by have := hb1.lt; omega
 have hbs_b2 : w.heap.size ≤ b2 := Nat.le_trans hsz hzl2
 replace hB := below_ext hB hE2 hsz
 replace hb1 := hb1.ext hE2
 replace hsz := Nat.le_trans hsz hE2.size
 refine l_q (qab rfl rfl) (l_nil (r_seq (r_seq (r_region' (l_q (q_fieldAddr (o' := 2) rfl fld46_2 rfl) (l_q (q_load_agg (n := 2) Tryz.isAgg43 Tryz.sizeOf43 rfl ((hb1.cells' (cs' := [_, _]) 2 2 rfl)) rfl rfl) (l_q (q_fieldAddr (o' := 0) rfl fld58_0 rfl) (l_q (q_load Tryz.isAgg3 rfl ((hb2.has (o := 0) rfl)) rfl) (l_o (o_call Tryz.call59 rfl (lhas_ret _ _ _ _) rfl ?_))))))))))
 rintro _ w3 ⟨rfl, hE3⟩
 replace hB := below_ext hB hE3 hsz
 replace hb1 := hb1.ext hE3
 replace hb2 := hb2.ext hE3
 replace hsz := Nat.le_trans hsz hE3.size
 refine l_q (q_not rfl rfl) (l_q (qmb rfl rfl) (l_part 13 rfl (fun hc4 => ?_) (fun hc4 => ?_)))
 ·
  replace hc4 := b2f (nt hc4)
  refine l_q (q_skip rfl) (l_q (q_skip rfl) (l_q (q_skip rfl) (l_q (q_skip rfl) (l_q (q_skip rfl) (l_q (q_skip rfl) (l_q (q_skip rfl) (l_q (q_pick_t (v := .bool _) rfl rfl rfl) (l_nil (r_forget [(2, .pointer _), (3, .pointer _), (21, .bool _)] ⟨rfl, rfl, rfl, trivial⟩ (fun e5 => (r_cond_t rfl (r_seq (r_region' (l_q (qab rfl rfl) (l_nil (r_ret_ (vs := [.bool _]) rfl Tryz.func35 rfl (.nil _) ⟨rfl, trivial⟩ ?_))))))))))))))))
  exact ⟨vbool_eq (decide_eq_false (fun h => by have h1 := h.1; have h2 := h.2.1; omega)).symm, Ext.of_below hB⟩
 ·
  replace hc4 := b2t (nf hc4)
  refine l_q (q_fieldAddr (o' := 1) rfl fld58_1 rfl) (l_q (q_load Tryz.isAgg27 rfl ((hb2.has (o := 1) rfl)) rfl) (l_q (q_len rfl Tryz.underlying27 rfl rfl) (l_q (q_fieldAddr (o' := 4) rfl fld46_3 rfl) (l_q (q_load Tryz.isAgg44 rfl ((hb1.has (o := 4) rfl)) rfl) (l_q (q_len rfl Tryz.underlying44 rfl rfl) (l_q (q_neq rfl rfl rfl) (l_q (q_pick_f (v := .bool _) rfl rfl rfl) (l_nil (r_forget [(2, .pointer _), (3, .pointer _), (21, .bool _)] ⟨rfl, rfl, rfl, trivial⟩ (fun e6 => (r_cond rfl (fun hc7 => ?_) (fun hc7 => ?_))))))))))))
  ·
   replace hc7 := df (nt hc7)
   refine r_seq (r_region' (l_q (qab rfl rfl) (l_nil (r_ret_ (vs := [.bool _]) rfl Tryz.func35 rfl (.nil _) ⟨rfl, trivial⟩ ?_))))
   exact ⟨vbool_eq (decide_eq_false (fun h => by have h1 := h.1; have h2 := h.2.1; omega)).symm, Ext.of_below hB⟩
  ·
   replace hc7 := dt (nf hc7)
   have hbn : bs.length = ns.length := by omega
   have hst : s0 ≤ st ∧ st ≤ s1 := by omega
   refine r_skip (r_seq (r_seq (r_region' (l_q (q_fieldAddr (o' := 4) rfl fld46_3 rfl) (l_q (q_load Tryz.isAgg44 rfl ((hb1.has (o := 4) rfl)) rfl) (l_q (q_len rfl Tryz.underlying44 rfl rfl) (l_q (qmi rfl rfl) (l_nil (r_block (r_rounds (α := Nat) (fun k e wl => Knows e [(3, ptr b2 0), (23, .slice sa ns.length sc), (24, vint (ns.length : Int)), (25, vint (k : Int))] ∧ (k ≤ ns.length) ∧ (∀ j, j < k → (ns.getD j nt0).lo ≤ bs.getD j 0 ∧ bs.getD j 0 ≤ (ns.getD j nt0).hi) ∧ (Blk wl b1 [vint cap, vint can, vint s0, vint s1, .slice sa ns.length sc]) ∧ (Blk wl b2 [vint st, .slice ba bs.length bc]) ∧ (w.heap.size ≤ wl.heap.size) ∧ (Below w.heap.size w wl)) (fun k => ns.length - k) 0 ?_ ?_))))))))))
   ·
    exact ⟨⟨rfl, rfl, rfl, rfl, trivial⟩, (Nat.zero_le _), (fun i hi => absurd hi (Nat.not_lt_zero _)), hb1, hb2, hsz, hB⟩
   ·
    rintro k el8 wl8 ⟨hkn, hkk, hno, hb1, hb2, hsz, hB⟩ ih8
    obtain ⟨e8, rfl⟩ := knows_env hkn
    refine r_seq (r_region' (l_q (q_lss rfl rfl rfl) (l_nil (r_seq (r_cond rfl (fun hc9 => ?_) (fun hc9 => ?_))))))
    ·
     replace hc9 := dt hc9
     have hkn : k < ns.length := by omega
     refine r_skip (r_seq (r_block (r_seq (r_region' (l_q (qmi rfl rfl) ?_)))))
     obtain ⟨b10, o10, ha10, hh10⟩ := (hns.below hB).at (by decide) k (by omega)
     refine l_q (q_indexAddr Tryz.underlying44 Tryz.sizeOf75 rfl ha10 rfl (by omega) rfl) (l_q (q_load_agg (cs := [vint (((ns).getD k nt0).h), vint (((ns).getD k nt0).le), vint (((ns).getD k nt0).mo), vint (((ns).getD k nt0).lo), vint (((ns).getD k nt0).hi)]) (n := 5) Tryz.isAgg75 Tryz.sizeOf75 rfl ((cells_cast (wide_at NT.len nt0 _ _ (by omega)) hh10)) rfl rfl) (l_o (o_alloc Tryz.zeroValue75 rfl rfl ?_)))
     intro b11 w11 hzl11 hzr11 _ hb11 hE11
     have hne_b1_b11 : b1 ≠ b11 := by have := hb1.lt; omega
     have hne_b2_b11 : b2 ≠ b11 := by have := hb2.lt; omega
     have hbs_b11 : w.heap.size ≤ b11 := Nat.le_trans hsz hzl11
     replace hB := below_ext hB hE11 hsz
     replace hb1 := hb1.ext hE11
     replace hb2 := hb2.ext hE11
     replace hsz := Nat.le_trans hsz hE11.size
     refine l_q (qai rfl rfl) (l_o (o_store (vs := [vint (((ns).getD k nt0).h), vint (((ns).getD k nt0).le), vint (((ns).getD k nt0).mo), vint (((ns).getD k nt0).lo), vint (((ns).getD k nt0).hi)]) (cs' := [vint (((ns).getD k nt0).h), vint (((ns).getD k nt0).le), vint (((ns).getD k nt0).mo), vint (((ns).getD k nt0).lo), vint (((ns).getD k nt0).hi)]) Tryz.sizeOf75 rfl rfl rfl rfl hb11 (Nat.le_of_ble_eq_true rfl) rfl rfl ?_))
     intro w12 hz12 hb11 hG12
     replace hB := below_upd hB hG12 hsz (by omega)
     replace hsz : w.heap.size ≤ w12.heap.size := by rw [hz12]; exact hsz
     replace hb1 := hb1.upd hG12 (by omega)
     replace hb2 := hb2.upd hG12 (by omega)
     refine l_nil (r_seq (r_draw ext_refl' ext_trans' [0, 1, 2, 3, 4, 5, 6, 7, 8] [7] 2 (by kernel_rfl) (by kernel_rfl) ?_))
     intro w13 _ hE13
     replace hB := below_ext hB hE13 hsz
     replace hb1 := hb1.ext hE13
     replace hb2 := hb2.ext hE13
     replace hb11 := hb11.ext hE13
     replace hsz := Nat.le_trans hsz hE13.size
     refine m_q rfl rfl (fun w' hC' => q_fieldAddr (o' := 3) rfl fld75_3 rfl) (m_q rfl rfl (fun w' hC' => q_load_agg (n := 2) Tryz.isAgg43 Tryz.sizeOf43 rfl (((hb11.cells' (cs' := [_, _]) 3 2 rfl).ext hC')) rfl rfl) (m_q rfl rfl (fun w' hC' => q_fieldAddr (o' := 1) rfl fld58_1 rfl) (m_q rfl rfl (fun w' hC' => q_load Tryz.isAgg27 rfl (((hb2.has (o := 1) rfl).ext hC')) rfl) (m_q rfl rfl (fun w' hC' => qmi rfl rfl) ?_))))
     obtain ⟨b14, o14, ha14, hh14⟩ := (hbs.below hB).at1 k ((bs).getD k 0) (getD_some (by omega))
     refine m_q rfl rfl (fun w' hC' => q_indexAddr1 Tryz.underlying27 Tryz.sizeOf3 rfl ha14 rfl (by omega) rfl) (m_q rfl rfl (fun w' hC' => q_load Tryz.isAgg3 rfl ((hh14.ext hC')) rfl) (m_o rfl rfl (o_call Tryz.call59 rfl (lhas_ret _ _ _ _) rfl ?_)))
     rintro _ w15 ⟨rfl, hE15⟩
     refine ⟨hE15, ?_⟩
     replace hB := below_ext hB hE15 hsz
     replace hb1 := hb1.ext hE15
     replace hb2 := hb2.ext hE15
     replace hsz := Nat.le_trans hsz hE15.size
     refine m_q rfl rfl (fun w' hC' => q_not rfl rfl) (m_nil (r_forget [(3, .pointer _), (23, .slice _ _ _), (24, .int _ _), (25, .int _ _), (38, .bool _)] ⟨rfl, rfl, rfl, rfl, rfl, trivial⟩ (fun e16 => (r_cond rfl (fun hc17 => ?_) (fun hc17 => ?_)))))
     ·
      replace hc17 := b2f (nt hc17)
      refine r_seq (r_region' (l_q (qab rfl rfl) (l_nil (r_ret_ (vs := [.bool _]) rfl Tryz.func35 rfl (.nil _) ⟨rfl, trivial⟩ ?_))))
      exact ⟨vbool_eq (decide_eq_false (fun h => by have h1 := h.2.2 k hkn; omega)).symm, Ext.of_below hB⟩
     ·
      replace hc17 := b2t (nf hc17)
      refine r_skip (r_inBlock (r_region' (l_q (q_add rfl rfl (by omega) rfl) (l_q (qmi rfl rfl) (l_nil ?_)))))
      exact ih8 (k + 1) _ _ ⟨⟨rfl, rfl, rfl, by first | rfl | exact vint_eq (by omega), trivial⟩, (by omega), (fun j hj => by rcases Nat.lt_succ_iff_lt_or_eq.1 hj with h | h; exact hno j h; subst h; omega), hb1, hb2, hsz, hB⟩ (by first | omega | (dsimp only; omega))
    ·
     replace hc9 := dlt hc9
     refine r_exit rfl (r_seq (r_region' (l_q (qab rfl rfl) (l_nil (r_ret_ (vs := [.bool _]) rfl Tryz.func35 rfl (.nil _) ⟨rfl, trivial⟩ ?_)))))
     have hkk : k = ns.length := by omega
     subst hkk
     exact ⟨vbool_eq (decide_eq_true ⟨hst, hbn, hno⟩).symm, Ext.of_below hB⟩
end Go.Proofs.YtbikicakdkbcgabGreat
