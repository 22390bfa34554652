/- Contracts. -/
import Derived.Test.YtbikicakdkbcgaaF8
import Derived.Test.YtbikicakdkbcgaaGvB
set_option linter.unusedVariables false
set_option linter.unusedSimpArgs false
namespace Go.Proofs.Ytbikicakdkbcgaa
open Go Go.RowKit Go.Gv Go.Fl

theorem row_none {xs : List Int} {w : World} {a : Option Addr} {n c : Nat} (h : Row w a n c 1 (xs.map vint)) (ha : a.isNone = true) : xs = [] := by
  rcases h.2.2 with h0 | ⟨b, o, rfl, _⟩
  · simpa using h0
  · cases ha
structure PV where
  a : Option Addr
  c : Nat
  ab : List Bool
  r : Int
  m : Int
abbrev PV.enc (p : PV) : List Value := [.slice p.a p.ab.length p.c, vint p.r, vint p.m]
def pv0 : PV := ⟨none, 0, [], 0, 0⟩
theorem PV.len (p : PV) : p.enc.length = 3 := rfl
theorem PV.one (p : PV) : p.enc.all Value.oneCell' = true := rfl
structure RG where
  lo : Int
  hi : Int
abbrev RG.enc (p : RG) : List Value := [vint p.lo, vint p.hi]
def rg0 : RG := ⟨0, 0⟩
theorem RG.len (p : RG) : p.enc.length = 2 := rfl
theorem RG.one (p : RG) : p.enc.all Value.oneCell' = true := rfl
structure Pn where
  ab : List Bool
  r : Int
  m : Int
def PV.pn (p : PV) : Pn := ⟨p.ab, p.r, p.m⟩
structure Po where
  nd : List Int
  P : List Pn
  C : List (List Int)
def po (nd : List Int) (pl : List PV) (L : List SV) : Po := ⟨nd, pl.map PV.pn, L.map (·.xs)⟩
def RowsP (w : World) (l : List PV) : Prop := ∀ p ∈ l, Row w p.a p.ab.length p.c 1 (p.ab.map Value.bool)
theorem RowsP.ext {w w' : World} {l : List PV} (h : RowsP w l) (hg : Ext w w') : RowsP w' l := fun s hs => (h s hs).ext hg
theorem RowsP.below {w w' : World} {l : List PV} (h : RowsP w l) (hg : Below w.heap.size w w') : RowsP w' l := fun s hs => (h s hs).below hg
theorem RowsP.get {w : World} {l : List PV} (h : RowsP w l) {i : Nat} (hi : i < l.length) : Row w (l.getD i pv0).a (l.getD i pv0).ab.length (l.getD i pv0).c 1 ((l.getD i pv0).ab.map Value.bool) := h _ (getD_lt hi)
structure PoAt (w : World) (na : Option Addr) (nc : Nat) (nd : List Int) (pa : Option Addr) (pc : Nat) (pl : List PV) (ca : Option Addr) (cc : Nat) (L : List SV) : Prop where
  rnd : Row w na nd.length nc 1 (nd.map vint)
  rpl : Row w pa pl.length pc 3 (pl.flatMap PV.enc)
  rplr : RowsP w pl
  rC : Row w ca L.length cc 1 (L.map SV.enc)
  rCr : RowsI w L
section
variable {w w' : World} {na : Option Addr} {nc : Nat} {nd : List Int} {pa : Option Addr} {pc : Nat} {pl : List PV} {ca : Option Addr} {cc : Nat} {L : List SV}
theorem PoAt.ext (h : PoAt w na nc nd pa pc pl ca cc L) (hg : Ext w w') : PoAt w' na nc nd pa pc pl ca cc L := ⟨h.rnd.ext hg, h.rpl.ext hg, h.rplr.ext hg, h.rC.ext hg, h.rCr.ext hg⟩
theorem PoAt.below (h : PoAt w na nc nd pa pc pl ca cc L) (hg : Below w.heap.size w w') : PoAt w' na nc nd pa pc pl ca cc L := h.ext (.of_below hg)
end
def okNeed (n : Int) : Bool := decide (0 ≤ n) && decide (n ≤ 2)
def okPerson (n : Nat) (x : Pn) : Bool := (decide ((x.ab.length : Int) = (n : Int)) && (decide (0 ≤ x.r) && decide (x.r ≤ 5))) && (decide (0 ≤ x.m) && decide (x.m ≤ 5))
def illIn (n : Nat) (x : Int) : Bool := decide (-1 ≤ x) && decide (x ≤ (n : Int) - 1)
def okIll (n k : Nat) (l : List Int) : Bool := decide ((l.length : Int) = (k : Int)) && l.all (illIn n)
def faultP (p : Po) : Int := if 5 < p.nd.length ∨ 4 < p.P.length ∨ 4 < p.C.length then 3 else
  if ((((decide (0 < p.nd.length) && decide (0 < p.P.length)) && p.nd.all okNeed) && p.P.all (okPerson p.nd.length)) && p.C.all (okIll p.nd.length p.P.length)) = true then 0 else 1
theorem pn_all {pl : List PV} {q : Pn → Bool} : (pl.map PV.pn).all q = pl.all (fun x => q x.pn) := by rw [List.all_map]; rfl
theorem xs_all {L : List SV} {q : List Int → Bool} : (L.map (·.xs)).all q = L.all (fun s => q s.xs) := by rw [List.all_map]; rfl
def lastAt (xs : List Int) : Nat → Int
  | 0 => -1
  | k + 1 => xs.getD k 0
def rAt (xs : List Int) (be : Int) (k : Nat) : Bool := decide (lastAt xs k + 1 ≤ xs.getD k 0) && decide (xs.getD k 0 ≤ be - 1)
def risB (xs : List Int) (be : Int) : Bool := (List.range xs.length).all (rAt xs be)
theorem last_rng {xs : List Int} {be : Int} {k : Nat} (hbe : 0 ≤ be ∧ be ≤ 2097152) (hk : k < xs.length) (h : ∀ j, j < k → rAt xs be j = true) : -1 ≤ lastAt xs k ∧ lastAt xs k ≤ 2097152 := by
  have key : ∀ i, i ≤ k → -1 ≤ lastAt xs i ∧ lastAt xs i ≤ 2097152 := by
    intro i
    induction i with
    | zero => intro _; exact ⟨Int.le_refl _, show (-1 : Int) ≤ 2097152 by decide⟩
    | succ i ih =>
      intro hi
      have h1 := ih (by omega)
      have h2 := h i (by omega)
      unfold rAt at h2
      simp only [Bool.and_eq_true, decide_eq_true_eq] at h2
      show -1 ≤ xs.getD i 0 ∧ xs.getD i 0 ≤ 2097152
      omega
  exact key k (Nat.le_refl _)
def planP (p : Po) (R : List (List Int)) : Int := if ¬ faultP p = 0 then faultP p else if decide ((R.length : Int) = (p.nd.length : Int)) && R.all (fun l => risB l (p.P.length : Int)) then 0 else 2
theorem plan_f {p : Po} {R : List (List Int)} (h : ¬ faultP p = 0) : planP p R = faultP p := if_pos h
section
variable {nd : List Int} {pl : List PV} {L R : List SV}
theorem plan_2 (h : faultP (po nd pl L) = 0) (h2 : ¬ ((R.length : Int) = (nd.length : Int) ∧ R.all (fun s => risB s.xs (pl.length : Int)) = true)) : planP (po nd pl L) (R.map (·.xs)) = 2 := by
  unfold planP
  rw [if_neg (by simpa using h), if_neg]
  rw [xs_all, Bool.and_eq_true, decide_eq_true_eq]
  simpa only [po, List.length_map] using h2
theorem plan_0 (h : faultP (po nd pl L) = 0) (h2 : (R.length : Int) = (nd.length : Int) ∧ R.all (fun s => risB s.xs (pl.length : Int)) = true) : planP (po nd pl L) (R.map (·.xs)) = 0 := by
  unfold planP
  rw [if_neg (by simpa using h), if_pos]
  rw [xs_all, Bool.and_eq_true, decide_eq_true_eq]
  simpa only [po, List.length_map] using h2
theorem fault_3 (h : 5 < nd.length ∨ 4 < pl.length ∨ 4 < L.length) : faultP (po nd pl L) = 3 := by
  unfold faultP po; rw [if_pos (by simpa using h)]
theorem fault_1 (h : nd.length ≤ 5 ∧ pl.length ≤ 4 ∧ L.length ≤ 4) (h2 : ¬ ((((0 < nd.length ∧ 0 < pl.length) ∧ nd.all okNeed = true) ∧ pl.all (fun x => okPerson nd.length x.pn) = true) ∧ L.all (fun s => okIll nd.length pl.length s.xs) = true)) : faultP (po nd pl L) = 1 := by
  unfold faultP po
  rw [if_neg (by simp; omega), if_neg]
  simp only [pn_all, xs_all, List.length_map, Bool.and_eq_true, decide_eq_true_eq]
  exact h2
theorem fault_0 (h : nd.length ≤ 5 ∧ pl.length ≤ 4 ∧ L.length ≤ 4) (h2 : (((0 < nd.length ∧ 0 < pl.length) ∧ nd.all okNeed = true) ∧ pl.all (fun x => okPerson nd.length x.pn) = true) ∧ L.all (fun s => okIll nd.length pl.length s.xs) = true) : faultP (po nd pl L) = 0 := by
  unfold faultP po
  rw [if_neg (by simp; omega), if_pos]
  simp only [pn_all, xs_all, List.length_map, Bool.and_eq_true, decide_eq_true_eq]
  exact h2
end

theorem fld45_0 (w : World) (b o : Nat) : (Instr.fieldAt 45 (ptr b o) 0).run Try.prog w = .ok (ptr b (o + 0)) w := by
  simp [Instr.fieldAt, run_underlying Try.underlying45, fieldPlace, Instr.sureAddr, Try.sizeOf43, Addr.add_lit]
theorem fld29_0 (w : World) (b o : Nat) : (Instr.fieldAt 29 (ptr b o) 0).run Try.prog w = .ok (ptr b (o + 0)) w := by
  simp [Instr.fieldAt, run_underlying Try.underlying29, fieldPlace, Instr.sureAddr, Try.sizeOf26, Addr.add_lit]
theorem fld45_1 (w : World) (b o : Nat) : (Instr.fieldAt 45 (ptr b o) 1).run Try.prog w = .ok (ptr b (o + 1)) w := by
  simp [Instr.fieldAt, run_underlying Try.underlying45, fieldPlace, Instr.sureAddr, Try.sizeOf3, Addr.add_lit]
theorem fld45_2 (w : World) (b o : Nat) : (Instr.fieldAt 45 (ptr b o) 2).run Try.prog w = .ok (ptr b (o + 2)) w := by
  simp [Instr.fieldAt, run_underlying Try.underlying45, fieldPlace, Instr.sureAddr, Try.sizeOf3, Addr.add_lit]
theorem fld29_1 (w : World) (b o : Nat) : (Instr.fieldAt 29 (ptr b o) 1).run Try.prog w = .ok (ptr b (o + 1)) w := by
  simp [Instr.fieldAt, run_underlying Try.underlying29, fieldPlace, Instr.sureAddr, Try.sizeOf27, Addr.add_lit]
theorem fld29_2 (w : World) (b o : Nat) : (Instr.fieldAt 29 (ptr b o) 2).run Try.prog w = .ok (ptr b (o + 2)) w := by
  simp [Instr.fieldAt, run_underlying Try.underlying29, fieldPlace, Instr.sureAddr, Try.sizeOf22, Addr.add_lit]
theorem rwithin_ret (n lo hi : Int) (w : World) : Ret Try.prog 39 [vint n, vint lo, vint hi] w (fun v w' => v = .bool (decide (lo ≤ n) && decide (n ≤ hi)) ∧ w = w') := by
 have hB := Below.refl w.heap.size w
 have hsz : w.heap.size ≤ w.heap.size := Nat.le_refl _
 refine ret_of_runs (args := [_, _, _]) Try.func39 rfl (Nat.le_of_ble_eq_true rfl) (by kernel_rfl) (r_seq (r_region' (l_q (qab rfl rfl) (l_nil (r_seq (r_region' (l_q (qmi rfl rfl) (l_q (qmi rfl rfl) (l_q (q_leq rfl rfl rfl) (l_q (qmb rfl rfl) (l_part 10 rfl (fun hc1 => ?_) (fun hc1 => ?_))))))))))))
 ·
  replace hc1 := dt hc1
  refine l_q (qmi rfl rfl) (l_q (qmi rfl rfl) (l_q (q_leq rfl rfl rfl) (l_q (q_pick_t (v := .bool _) rfl rfl rfl) (l_q (qab rfl rfl) (l_nil (r_forget [(6, .bool _)] ⟨rfl, trivial⟩ (fun e2 => (r_ret_ (vs := [.bool _]) rfl Try.func39 rfl (.nil _) ⟨rfl, trivial⟩ ?_))))))))
  exact ⟨vbool_eq (by simp_all <;> omega), rfl⟩
 ·
  replace hc1 := dle hc1
  refine l_q (q_skip rfl) (l_q (q_skip rfl) (l_q (q_skip rfl) (l_q (q_pick_f (v := .bool _) rfl rfl rfl) (l_q (qab rfl rfl) (l_nil (r_forget [(6, .bool _)] ⟨rfl, trivial⟩ (fun e3 => (r_ret_ (vs := [.bool _]) rfl Try.func39 rfl (.nil _) ⟨rfl, trivial⟩ ?_))))))))
  exact ⟨vbool_eq (by simp_all <;> omega), rfl⟩
theorem all1_int_ret (b : Nat) (g : FuncId) (fst cap cs : List Value) (p : Nat → Bool) (i : Nat) (v : Value) (w : World) (hb : Blk w b [.func (.func g) ⟨fst⟩ ⟨cap⟩]) (hp : PredI Try.prog w g fst cap cs p) (hv : cs[i]? = some v) : Ret Try.prog 61 [v, ptr b 0] w (fun v w' => v = .bool (!p i) ∧ Ext w w') := by
 have hbl := hb.lt
 have hB := Below.refl w.heap.size w
 have hsz : w.heap.size ≤ w.heap.size := Nat.le_refl _
 refine ret_of_runs (args := [_, _]) Try.func61 rfl (Nat.le_of_ble_eq_true rfl) (by kernel_rfl) (r_seq (r_region' (l_q (qab rfl rfl) (l_nil (r_seq (r_region' (l_q (q_load Try.isAgg84 rfl (((hb.below hB (by omega)).has (o := 0) rfl)) rfl) (l_q (q_move (v := v) rfl rfl) (l_o (o_callv (f := g) (fst := fst) (cap := cap) rfl hp.1 rfl (hp.2 _ (Ext.of_below hB) i _ hv) rfl ?_))))))))))
 rintro _ w1 ⟨rfl, hE1⟩
 replace hB := below_ext hB hE1 hsz
 replace hsz := Nat.le_trans hsz hE1.size
 refine l_q (q_not rfl rfl) (l_q (qab rfl rfl) (l_nil (r_ret_ (vs := [.bool _]) rfl Try.func61 rfl (.nil _) ⟨rfl, trivial⟩ ?_)))
 exact ⟨rfl, Ext.of_below hB⟩
theorem all1_int_pred {w : World} {b : Nat} {g : FuncId} {fst cap cs : List Value} {p : Nat → Bool} (hb : Blk w b [.func (.func g) ⟨fst⟩ ⟨cap⟩]) (hp : PredI Try.prog w g fst cap cs p) :
    PredI Try.prog w 61 [] [ptr b 0] cs (fun i => !p i) :=
  ⟨Try.call61, fun w' hw i v hv => all1_int_ret _ _ _ _ _ _ _ _ _ (hb.ext hw) (hp.ext hw) hv⟩
theorem all_int_ret (a : Option Addr) (n c : Nat) (cs : List Value) (g : FuncId) (fst cap : List Value) (p : Nat → Bool) (w : World) (hrow : Row w a n c 1 cs) (hp : PredI Try.prog w g fst cap cs p) (hn : n ≤ 9223372036854775806) : Ret Try.prog 37 [.slice a n c, .func (.func g) ⟨fst⟩ ⟨cap⟩] w (fun v w' => v = .bool ((List.range n).all p) ∧ Ext w w') := by
 have hB := Below.refl w.heap.size w
 have hsz : w.heap.size ≤ w.heap.size := Nat.le_refl _
 refine ret_of_runs (args := [_, _]) Try.func37 rfl (Nat.le_of_ble_eq_true rfl) (by kernel_rfl) (r_seq (r_region' (l_o (o_box rfl rfl rfl ?_))))
 intro b1 w1 hzl1 hzr1 _ hb1 hE1
 have hbs_b1 : w.heap.size ≤ b1 := Nat.le_trans hsz hzl1
 replace hB := below_ext hB hE1 hsz
 replace hsz := Nat.le_trans hsz hE1.size
 refine l_q (qab rfl rfl) (l_nil (r_seq (r_region' (l_q (qms rfl rfl) (l_q (q_makeFunc (v := .func _ ⟨[]⟩ ⟨[_]⟩) rfl rfl) (l_o (o_call Try.call60 rfl (containsFunc_int_ret _ _ _ _ 61 [] [ptr b1 0] (fun i => !p i) _ (hrow.below hB) (all1_int_pred hb1 (hp.ext (Ext.of_below hB))) hn) rfl ?_)))))))
 rintro _ w2 ⟨rfl, hE2⟩
 replace hB := below_ext hB hE2 hsz
 replace hsz := Nat.le_trans hsz hE2.size
 refine l_q (q_not rfl rfl) (l_q (qab rfl rfl) (l_nil (r_ret_ (vs := [.bool _]) rfl Try.func37 rfl (.nil _) ⟨rfl, trivial⟩ ?_)))
 exact ⟨vbool_eq (by rw [List.all_eq_not_any_not]), Ext.of_below hB⟩
theorem all_int_of {α : Type} {f : α → Value} {xs : List α} (d : α) {q : α → Bool} {w : World} {a : Option Addr} {c : Nat} {g : FuncId} {fst cap : List Value} (hin : ∀ args w, (callFunc g args).run Try.prog w = .ok (.enter g args) w)
    (hrow : Row w a xs.length c 1 (xs.map f)) (h : ∀ w', Ext w w' → ∀ x ∈ xs, Ret Try.prog g (fst ++ [f x] ++ cap) w' (fun r w'' => r = .bool (q x) ∧ Ext w' w'')) (hn : xs.length ≤ 9223372036854775806) :
    Ret Try.prog 37 [.slice a xs.length c, .func (.func g) ⟨fst⟩ ⟨cap⟩] w (fun v w' => v = .bool (xs.all q) ∧ Ext w w') :=
  (all_int_ret _ _ _ _ _ _ _ _ _ hrow (predI_of d hin h) hn).mono (fun v w' hx => ⟨by rw [hx.1, range_all xs d q], hx.2⟩)
theorem all1_ints_ret (b : Nat) (g : FuncId) (fst cap cs : List Value) (p : Nat → Bool) (i : Nat) (v : Value) (w : World) (hb : Blk w b [.func (.func g) ⟨fst⟩ ⟨cap⟩]) (hp : PredI Try.prog w g fst cap cs p) (hv : cs[i]? = some v) : Ret Try.prog 65 [v, ptr b 0] w (fun v w' => v = .bool (!p i) ∧ Ext w w') := by
 have hbl := hb.lt
 have hB := Below.refl w.heap.size w
 have hsz : w.heap.size ≤ w.heap.size := Nat.le_refl _
 refine ret_of_runs (args := [_, _]) Try.func65 rfl (Nat.le_of_ble_eq_true rfl) (by kernel_rfl) (r_seq (r_region' (l_q (qab rfl rfl) (l_nil (r_seq (r_region' (l_q (q_load Try.isAgg79 rfl (((hb.below hB (by omega)).has (o := 0) rfl)) rfl) (l_q (q_move (v := v) rfl rfl) (l_o (o_callv (f := g) (fst := fst) (cap := cap) rfl hp.1 rfl (hp.2 _ (Ext.of_below hB) i _ hv) rfl ?_))))))))))
 rintro _ w1 ⟨rfl, hE1⟩
 replace hB := below_ext hB hE1 hsz
 replace hsz := Nat.le_trans hsz hE1.size
 refine l_q (q_not rfl rfl) (l_q (qab rfl rfl) (l_nil (r_ret_ (vs := [.bool _]) rfl Try.func65 rfl (.nil _) ⟨rfl, trivial⟩ ?_)))
 exact ⟨rfl, Ext.of_below hB⟩
theorem all1_ints_pred {w : World} {b : Nat} {g : FuncId} {fst cap cs : List Value} {p : Nat → Bool} (hb : Blk w b [.func (.func g) ⟨fst⟩ ⟨cap⟩]) (hp : PredI Try.prog w g fst cap cs p) :
    PredI Try.prog w 65 [] [ptr b 0] cs (fun i => !p i) :=
  ⟨Try.call65, fun w' hw i v hv => all1_ints_ret _ _ _ _ _ _ _ _ _ (hb.ext hw) (hp.ext hw) hv⟩
theorem all_ints_ret (a : Option Addr) (n c : Nat) (cs : List Value) (g : FuncId) (fst cap : List Value) (p : Nat → Bool) (w : World) (hrow : Row w a n c 1 cs) (hp : PredI Try.prog w g fst cap cs p) (hn : n ≤ 9223372036854775806) : Ret Try.prog 41 [.slice a n c, .func (.func g) ⟨fst⟩ ⟨cap⟩] w (fun v w' => v = .bool ((List.range n).all p) ∧ Ext w w') := by
 have hB := Below.refl w.heap.size w
 have hsz : w.heap.size ≤ w.heap.size := Nat.le_refl _
 refine ret_of_runs (args := [_, _]) Try.func41 rfl (Nat.le_of_ble_eq_true rfl) (by kernel_rfl) (r_seq (r_region' (l_o (o_box rfl rfl rfl ?_))))
 intro b1 w1 hzl1 hzr1 _ hb1 hE1
 have hbs_b1 : w.heap.size ≤ b1 := Nat.le_trans hsz hzl1
 replace hB := below_ext hB hE1 hsz
 replace hsz := Nat.le_trans hsz hE1.size
 refine l_q (qab rfl rfl) (l_nil (r_seq (r_region' (l_q (qms rfl rfl) (l_q (q_makeFunc (v := .func _ ⟨[]⟩ ⟨[_]⟩) rfl rfl) (l_o (o_call Try.call64 rfl (containsFunc_ints_ret _ _ _ _ 65 [] [ptr b1 0] (fun i => !p i) _ (hrow.below hB) (all1_ints_pred hb1 (hp.ext (Ext.of_below hB))) hn) rfl ?_)))))))
 rintro _ w2 ⟨rfl, hE2⟩
 replace hB := below_ext hB hE2 hsz
 replace hsz := Nat.le_trans hsz hE2.size
 refine l_q (q_not rfl rfl) (l_q (qab rfl rfl) (l_nil (r_ret_ (vs := [.bool _]) rfl Try.func41 rfl (.nil _) ⟨rfl, trivial⟩ ?_)))
 exact ⟨vbool_eq (by rw [List.all_eq_not_any_not]), Ext.of_below hB⟩
theorem all_ints_of {α : Type} {f : α → Value} {xs : List α} (d : α) {q : α → Bool} {w : World} {a : Option Addr} {c : Nat} {g : FuncId} {fst cap : List Value} (hin : ∀ args w, (callFunc g args).run Try.prog w = .ok (.enter g args) w)
    (hrow : Row w a xs.length c 1 (xs.map f)) (h : ∀ w', Ext w w' → ∀ x ∈ xs, Ret Try.prog g (fst ++ [f x] ++ cap) w' (fun r w'' => r = .bool (q x) ∧ Ext w' w'')) (hn : xs.length ≤ 9223372036854775806) :
    Ret Try.prog 41 [.slice a xs.length c, .func (.func g) ⟨fst⟩ ⟨cap⟩] w (fun v w' => v = .bool (xs.all q) ∧ Ext w w') :=
  (all_ints_ret _ _ _ _ _ _ _ _ _ hrow (predI_of d hin h) hn).mono (fun v w' hx => ⟨by rw [hx.1, range_all xs d q], hx.2⟩)
theorem indexFunc_pv_ret (a : Option Addr) (c : Nat) (xs : List PV) (g : FuncId) (fst cap : List Value) (q : PV → Bool) (w : World) (hrow : Row w a xs.length c 3 (xs.flatMap PV.enc)) (hin : ∀ args w, (callFunc g args).run Try.prog w = .ok (.enter g args) w) (hp : ∀ w', Ext w w' → ∀ x ∈ xs, Ret Try.prog g (fst ++ [.agg ⟨PV.enc x⟩] ++ cap) w' (fun r w'' => r = .bool (q x) ∧ Ext w' w'')) (hn : xs.length ≤ 9223372036854775806) : Ret Try.prog 77 [.slice a xs.length c, .func (.func g) ⟨fst⟩ ⟨cap⟩] w (fun v w' => v = vint (idxI (fun i => q (xs.getD i pv0)) xs.length) ∧ Ext w w') := by
 have hB := Below.refl w.heap.size w
 have hsz : w.heap.size ≤ w.heap.size := Nat.le_refl _
 refine ret_of_runs (args := [_, _]) Try.func77 rfl (Nat.le_of_ble_eq_true rfl) (by kernel_rfl) (r_seq (r_region' (l_q (qai rfl rfl) (l_nil (r_seq (r_seq (r_region' (l_q (qms rfl rfl) (l_q (q_len rfl Try.underlying27 rfl rfl) (l_q (qmi rfl rfl) (l_nil (r_block (r_rounds (α := Nat) (fun k e wl => Knows e [(0, .slice a xs.length c), (1, .func (.func g) ⟨fst⟩ ⟨cap⟩), (7, vint (xs.length : Int)), (8, vint (k : Int))] ∧ (k ≤ xs.length) ∧ (∀ i, i < k → q (xs.getD i pv0) = false) ∧ (w.heap.size ≤ wl.heap.size) ∧ (Below w.heap.size w wl)) (fun k => xs.length - k) 0 ?_ ?_)))))))))))))
 ·
  exact ⟨⟨rfl, rfl, rfl, rfl, trivial⟩, (Nat.zero_le _), (fun i hi => absurd hi (Nat.not_lt_zero _)), hsz, hB⟩
 ·
  rintro k el1 wl1 ⟨hkn, hk, hno, hsz, hB⟩ ih1
  obtain ⟨e1, rfl⟩ := knows_env hkn
  refine r_seq (r_region' (l_q (q_lss rfl rfl rfl) (l_nil (r_seq (r_cond rfl (fun hc2 => ?_) (fun hc2 => ?_))))))
  ·
   replace hc2 := dt hc2
   refine r_skip (r_seq (r_block (r_seq (r_region' (l_q (qmi rfl rfl) (l_q (qai rfl rfl) (l_nil (r_seq (r_region' (l_q (q_move (v := .func _ _ _) rfl rfl) (l_q (qms rfl rfl) (l_q (qmi rfl rfl) ?_))))))))))))
   obtain ⟨b3, o3, ha3, hh3⟩ := (hrow.below hB).at (by decide) k (by omega)
   refine l_q (q_indexAddr Try.underlying27 Try.sizeOf45 rfl ha3 rfl (by omega) rfl) (l_q (q_load_agg (cs := [.slice (((xs).getD k pv0).a) (((xs).getD k pv0).ab.length) (((xs).getD k pv0).c), vint (((xs).getD k pv0).r), vint (((xs).getD k pv0).m)]) (n := 3) Try.isAgg45 Try.sizeOf45 rfl ((cells_cast (wide_at PV.len pv0 _ _ (by omega)) hh3)) rfl rfl) (l_o (o_callv (f := g) (fst := fst) (cap := cap) rfl hin rfl (hp _ (Ext.of_below hB) _ (getD_lt (d := pv0) (i := k) (by omega))) rfl ?_)))
   rintro _ w4 ⟨rfl, hE4⟩
   replace hB := below_ext hB hE4 hsz
   replace hsz := Nat.le_trans hsz hE4.size
   refine l_nil (r_cond rfl (fun hc5 => ?_) (fun hc5 => ?_))
   ·
    refine r_seq (r_region' (l_q (qmi rfl rfl) (l_q (qai rfl rfl) (l_nil (r_forget [(4, .int _ _)] ⟨rfl, trivial⟩ (fun e6 => (r_ret_ (vs := [.int _ _]) rfl Try.func77 rfl (.nil _) ⟨rfl, trivial⟩ ?_)))))))
    exact ⟨vint_eq (idxI_found (p := (fun i => q (xs.getD i pv0))) (by omega) (by assumption) hno).symm, Ext.of_below hB⟩
   ·
    refine r_skip (r_inBlock (r_region' (l_q (q_add rfl rfl (by omega) rfl) (l_q (qmi rfl rfl) (l_nil (r_forget [(0, .slice _ _ _), (1, .func _ _ _), (7, .int _ _), (8, .int _ _)] ⟨rfl, rfl, rfl, rfl, trivial⟩ (fun e7 => ?_)))))))
    exact ih1 (k + 1) _ _ ⟨⟨rfl, rfl, rfl, by first | rfl | exact vint_eq (by omega), trivial⟩, (by omega), (fun i hi => by rcases Nat.lt_succ_iff_lt_or_eq.1 hi with h | h; exact hno i h; subst h; assumption), hsz, hB⟩ (by first | omega | (dsimp only; omega))
  ·
   replace hc2 := dlt hc2
   refine r_exit rfl (r_seq (r_region' (l_q (qai rfl rfl) (l_nil (r_ret_ (vs := [.int _ _]) rfl Try.func77 rfl (.nil _) ⟨rfl, trivial⟩ ?_)))))
   exact ⟨vint_eq (idxI_none (p := (fun i => q (xs.getD i pv0))) (fun i hi => hno i (by omega))).symm, Ext.of_below hB⟩
theorem containsFunc_pv_ret (a : Option Addr) (c : Nat) (xs : List PV) (g : FuncId) (fst cap : List Value) (q : PV → Bool) (w : World) (hrow : Row w a xs.length c 3 (xs.flatMap PV.enc)) (hin : ∀ args w, (callFunc g args).run Try.prog w = .ok (.enter g args) w) (hp : ∀ w', Ext w w' → ∀ x ∈ xs, Ret Try.prog g (fst ++ [.agg ⟨PV.enc x⟩] ++ cap) w' (fun r w'' => r = .bool (q x) ∧ Ext w' w'')) (hn : xs.length ≤ 9223372036854775806) : Ret Try.prog 62 [.slice a xs.length c, .func (.func g) ⟨fst⟩ ⟨cap⟩] w (fun v w' => v = .bool (xs.any q) ∧ Ext w w') := by
 have hB := Below.refl w.heap.size w
 have hsz : w.heap.size ≤ w.heap.size := Nat.le_refl _
 refine ret_of_runs (args := [_, _]) Try.func62 rfl (Nat.le_of_ble_eq_true rfl) (by kernel_rfl) (r_seq (r_region' (l_q (qab rfl rfl) (l_nil (r_seq (r_region' (l_q (qms rfl rfl) (l_q (q_move (v := .func _ _ _) rfl rfl) (l_o (o_call Try.call77 rfl (indexFunc_pv_ret _ _ _ _ _ _ _ _ (hrow.below hB) hin hp hn) rfl ?_))))))))))
 rintro _ w1 ⟨rfl, hE1⟩
 replace hB := below_ext hB hE1 hsz
 replace hsz := Nat.le_trans hsz hE1.size
 refine l_q (q_geq rfl rfl rfl) (l_q (qab rfl rfl) (l_nil (r_ret_ (vs := [.bool _]) rfl Try.func62 rfl (.nil _) ⟨rfl, trivial⟩ ?_)))
 exact ⟨vbool_eq (by rw [idxI_nonneg, range_any xs pv0 q]), Ext.of_below hB⟩
theorem all1_pv_ret (b : Nat) (g : FuncId) (fst cap : List Value) (q : PV → Bool) (x : PV) (w : World) (hb : Blk w b [.func (.func g) ⟨fst⟩ ⟨cap⟩]) (hin : ∀ args w, (callFunc g args).run Try.prog w = .ok (.enter g args) w) (hp : ∀ w', Ext w w' → Ret Try.prog g (fst ++ [.agg ⟨PV.enc x⟩] ++ cap) w' (fun r w'' => r = .bool (q x) ∧ Ext w' w'')) : Ret Try.prog 63 [.agg ⟨[.slice x.a x.ab.length x.c, vint x.r, vint x.m]⟩, ptr b 0] w (fun v w' => v = .bool (!q x) ∧ Ext w w') := by
 have hbl := hb.lt
 have hB := Below.refl w.heap.size w
 have hsz : w.heap.size ≤ w.heap.size := Nat.le_refl _
 refine ret_of_runs (args := [_, _]) Try.func63 rfl (Nat.le_of_ble_eq_true rfl) (by kernel_rfl) (r_seq (r_region' (l_o (o_box rfl rfl rfl ?_))))
 intro b1 w1 hzl1 hzr1 _ hb1 hE1
 have hbs_b1 : w.heap.size ≤ b1 := Nat.le_trans hsz hzl1
 replace hB := below_ext hB hE1 hsz
 replace hsz := Nat.le_trans hsz hE1.size
 refine l_q (qab rfl rfl) (l_nil (r_seq (r_region' (l_q (q_load Try.isAgg81 rfl (((hb.below hB (by omega)).has (o := 0) rfl)) rfl) (l_q (q_load_agg (n := 3) Try.isAgg45 Try.sizeOf45 rfl ((hb1.cells' (cs' := [_, _, _]) 0 3 rfl)) rfl rfl) (l_o (o_callv (f := g) (fst := fst) (cap := cap) rfl hin rfl (hp _ (Ext.of_below hB)) rfl ?_)))))))
 rintro _ w2 ⟨rfl, hE2⟩
 replace hB := below_ext hB hE2 hsz
 replace hsz := Nat.le_trans hsz hE2.size
 refine l_q (q_not rfl rfl) (l_q (qab rfl rfl) (l_nil (r_ret_ (vs := [.bool _]) rfl Try.func63 rfl (.nil _) ⟨rfl, trivial⟩ ?_)))
 exact ⟨rfl, Ext.of_below hB⟩
theorem all_pv_ret (a : Option Addr) (c : Nat) (xs : List PV) (g : FuncId) (fst cap : List Value) (q : PV → Bool) (w : World) (hrow : Row w a xs.length c 3 (xs.flatMap PV.enc)) (hin : ∀ args w, (callFunc g args).run Try.prog w = .ok (.enter g args) w) (hp : ∀ w', Ext w w' → ∀ x ∈ xs, Ret Try.prog g (fst ++ [.agg ⟨PV.enc x⟩] ++ cap) w' (fun r w'' => r = .bool (q x) ∧ Ext w' w'')) (hn : xs.length ≤ 9223372036854775806) : Ret Try.prog 40 [.slice a xs.length c, .func (.func g) ⟨fst⟩ ⟨cap⟩] w (fun v w' => v = .bool (xs.all q) ∧ Ext w w') := by
 have hB := Below.refl w.heap.size w
 have hsz : w.heap.size ≤ w.heap.size := Nat.le_refl _
 refine ret_of_runs (args := [_, _]) Try.func40 rfl (Nat.le_of_ble_eq_true rfl) (by kernel_rfl) (r_seq (r_region' (l_o (o_box rfl rfl rfl ?_))))
 intro b1 w1 hzl1 hzr1 _ hb1 hE1
 have hbs_b1 : w.heap.size ≤ b1 := Nat.le_trans hsz hzl1
 replace hB := below_ext hB hE1 hsz
 replace hsz := Nat.le_trans hsz hE1.size
 refine l_q (qab rfl rfl) (l_nil (r_seq (r_region' (l_q (qms rfl rfl) (l_q (q_makeFunc (v := .func _ ⟨[]⟩ ⟨[_]⟩) rfl rfl) (l_o (o_call Try.call62 rfl (containsFunc_pv_ret _ _ xs 63 [] [ptr b1 0] (fun x => !q x) _ (hrow.below hB) Try.call63 (fun w' hw x hx => all1_pv_ret _ _ _ _ _ _ _ (hb1.ext hw) hin (fun w'' hw'' => hp _ ((Ext.of_below hB).trans (hw.trans hw'')) x hx)) hn) rfl ?_)))))))
 rintro _ w2 ⟨rfl, hE2⟩
 replace hB := below_ext hB hE2 hsz
 replace hsz := Nat.le_trans hsz hE2.size
 refine l_q (q_not rfl rfl) (l_q (qab rfl rfl) (l_nil (r_ret_ (vs := [.bool _]) rfl Try.func40 rfl (.nil _) ⟨rfl, trivial⟩ ?_)))
 exact ⟨vbool_eq (by rw [List.all_eq_not_any_not]), Ext.of_below hB⟩
theorem indexFunc_rg_ret (a : Option Addr) (c : Nat) (xs : List RG) (g : FuncId) (fst cap : List Value) (q : RG → Bool) (w : World) (hrow : Row w a xs.length c 2 (xs.flatMap RG.enc)) (hin : ∀ args w, (callFunc g args).run Try.prog w = .ok (.enter g args) w) (hp : ∀ w', Ext w w' → ∀ x ∈ xs, Ret Try.prog g (fst ++ [.agg ⟨RG.enc x⟩] ++ cap) w' (fun r w'' => r = .bool (q x) ∧ Ext w' w'')) (hn : xs.length ≤ 9223372036854775806) : Ret Try.prog 79 [.slice a xs.length c, .func (.func g) ⟨fst⟩ ⟨cap⟩] w (fun v w' => v = vint (idxI (fun i => q (xs.getD i rg0)) xs.length) ∧ Ext w w') := by
 have hB := Below.refl w.heap.size w
 have hsz : w.heap.size ≤ w.heap.size := Nat.le_refl _
 refine ret_of_runs (args := [_, _]) Try.func79 rfl (Nat.le_of_ble_eq_true rfl) (by kernel_rfl) (r_seq (r_region' (l_q (qai rfl rfl) (l_nil (r_seq (r_seq (r_region' (l_q (qms rfl rfl) (l_q (q_len rfl Try.underlying31 rfl rfl) (l_q (qmi rfl rfl) (l_nil (r_block (r_rounds (α := Nat) (fun k e wl => Knows e [(0, .slice a xs.length c), (1, .func (.func g) ⟨fst⟩ ⟨cap⟩), (7, vint (xs.length : Int)), (8, vint (k : Int))] ∧ (k ≤ xs.length) ∧ (∀ i, i < k → q (xs.getD i rg0) = false) ∧ (w.heap.size ≤ wl.heap.size) ∧ (Below w.heap.size w wl)) (fun k => xs.length - k) 0 ?_ ?_)))))))))))))
 ·
  exact ⟨⟨rfl, rfl, rfl, rfl, trivial⟩, (Nat.zero_le _), (fun i hi => absurd hi (Nat.not_lt_zero _)), hsz, hB⟩
 ·
  rintro k el1 wl1 ⟨hkn, hk, hno, hsz, hB⟩ ih1
  obtain ⟨e1, rfl⟩ := knows_env hkn
  refine r_seq (r_region' (l_q (q_lss rfl rfl rfl) (l_nil (r_seq (r_cond rfl (fun hc2 => ?_) (fun hc2 => ?_))))))
  ·
   replace hc2 := dt hc2
   refine r_skip (r_seq (r_block (r_seq (r_region' (l_q (qmi rfl rfl) (l_q (qai rfl rfl) (l_nil (r_seq (r_region' (l_q (q_move (v := .func _ _ _) rfl rfl) (l_q (qms rfl rfl) (l_q (qmi rfl rfl) ?_))))))))))))
   obtain ⟨b3, o3, ha3, hh3⟩ := (hrow.below hB).at (by decide) k (by omega)
   refine l_q (q_indexAddr Try.underlying31 Try.sizeOf41 rfl ha3 rfl (by omega) rfl) (l_q (q_load_agg (cs := [vint (((xs).getD k rg0).lo), vint (((xs).getD k rg0).hi)]) (n := 2) Try.isAgg41 Try.sizeOf41 rfl ((cells_cast (wide_at RG.len rg0 _ _ (by omega)) hh3)) rfl rfl) (l_o (o_callv (f := g) (fst := fst) (cap := cap) rfl hin rfl (hp _ (Ext.of_below hB) _ (getD_lt (d := rg0) (i := k) (by omega))) rfl ?_)))
   rintro _ w4 ⟨rfl, hE4⟩
   replace hB := below_ext hB hE4 hsz
   replace hsz := Nat.le_trans hsz hE4.size
   refine l_nil (r_cond rfl (fun hc5 => ?_) (fun hc5 => ?_))
   ·
    refine r_seq (r_region' (l_q (qmi rfl rfl) (l_q (qai rfl rfl) (l_nil (r_forget [(4, .int _ _)] ⟨rfl, trivial⟩ (fun e6 => (r_ret_ (vs := [.int _ _]) rfl Try.func79 rfl (.nil _) ⟨rfl, trivial⟩ ?_)))))))
    exact ⟨vint_eq (idxI_found (p := (fun i => q (xs.getD i rg0))) (by omega) (by assumption) hno).symm, Ext.of_below hB⟩
   ·
    refine r_skip (r_inBlock (r_region' (l_q (q_add rfl rfl (by omega) rfl) (l_q (qmi rfl rfl) (l_nil (r_forget [(0, .slice _ _ _), (1, .func _ _ _), (7, .int _ _), (8, .int _ _)] ⟨rfl, rfl, rfl, rfl, trivial⟩ (fun e7 => ?_)))))))
    exact ih1 (k + 1) _ _ ⟨⟨rfl, rfl, rfl, by first | rfl | exact vint_eq (by omega), trivial⟩, (by omega), (fun i hi => by rcases Nat.lt_succ_iff_lt_or_eq.1 hi with h | h; exact hno i h; subst h; assumption), hsz, hB⟩ (by first | omega | (dsimp only; omega))
  ·
   replace hc2 := dlt hc2
   refine r_exit rfl (r_seq (r_region' (l_q (qai rfl rfl) (l_nil (r_ret_ (vs := [.int _ _]) rfl Try.func79 rfl (.nil _) ⟨rfl, trivial⟩ ?_)))))
   exact ⟨vint_eq (idxI_none (p := (fun i => q (xs.getD i rg0))) (fun i hi => hno i (by omega))).symm, Ext.of_below hB⟩
theorem containsFunc_rg_ret (a : Option Addr) (c : Nat) (xs : List RG) (g : FuncId) (fst cap : List Value) (q : RG → Bool) (w : World) (hrow : Row w a xs.length c 2 (xs.flatMap RG.enc)) (hin : ∀ args w, (callFunc g args).run Try.prog w = .ok (.enter g args) w) (hp : ∀ w', Ext w w' → ∀ x ∈ xs, Ret Try.prog g (fst ++ [.agg ⟨RG.enc x⟩] ++ cap) w' (fun r w'' => r = .bool (q x) ∧ Ext w' w'')) (hn : xs.length ≤ 9223372036854775806) : Ret Try.prog 68 [.slice a xs.length c, .func (.func g) ⟨fst⟩ ⟨cap⟩] w (fun v w' => v = .bool (xs.any q) ∧ Ext w w') := by
 have hB := Below.refl w.heap.size w
 have hsz : w.heap.size ≤ w.heap.size := Nat.le_refl _
 refine ret_of_runs (args := [_, _]) Try.func68 rfl (Nat.le_of_ble_eq_true rfl) (by kernel_rfl) (r_seq (r_region' (l_q (qab rfl rfl) (l_nil (r_seq (r_region' (l_q (qms rfl rfl) (l_q (q_move (v := .func _ _ _) rfl rfl) (l_o (o_call Try.call79 rfl (indexFunc_rg_ret _ _ _ _ _ _ _ _ (hrow.below hB) hin hp hn) rfl ?_))))))))))
 rintro _ w1 ⟨rfl, hE1⟩
 replace hB := below_ext hB hE1 hsz
 replace hsz := Nat.le_trans hsz hE1.size
 refine l_q (q_geq rfl rfl rfl) (l_q (qab rfl rfl) (l_nil (r_ret_ (vs := [.bool _]) rfl Try.func68 rfl (.nil _) ⟨rfl, trivial⟩ ?_)))
 exact ⟨vbool_eq (by rw [idxI_nonneg, range_any xs rg0 q]), Ext.of_below hB⟩
theorem all1_rg_ret (b : Nat) (g : FuncId) (fst cap : List Value) (q : RG → Bool) (x : RG) (w : World) (hb : Blk w b [.func (.func g) ⟨fst⟩ ⟨cap⟩]) (hin : ∀ args w, (callFunc g args).run Try.prog w = .ok (.enter g args) w) (hp : ∀ w', Ext w w' → Ret Try.prog g (fst ++ [.agg ⟨RG.enc x⟩] ++ cap) w' (fun r w'' => r = .bool (q x) ∧ Ext w' w'')) : Ret Try.prog 69 [.agg ⟨[vint x.lo, vint x.hi]⟩, ptr b 0] w (fun v w' => v = .bool (!q x) ∧ Ext w w') := by
 have hbl := hb.lt
 have hB := Below.refl w.heap.size w
 have hsz : w.heap.size ≤ w.heap.size := Nat.le_refl _
 refine ret_of_runs (args := [_, _]) Try.func69 rfl (Nat.le_of_ble_eq_true rfl) (by kernel_rfl) (r_seq (r_region' (l_o (o_box rfl rfl rfl ?_))))
 intro b1 w1 hzl1 hzr1 _ hb1 hE1
 have hbs_b1 : w.heap.size ≤ b1 := Nat.le_trans hsz hzl1
 replace hB := below_ext hB hE1 hsz
 replace hsz := Nat.le_trans hsz hE1.size
 refine l_q (qab rfl rfl) (l_nil (r_seq (r_region' (l_q (q_load Try.isAgg97 rfl (((hb.below hB (by omega)).has (o := 0) rfl)) rfl) (l_q (q_load_agg (n := 2) Try.isAgg41 Try.sizeOf41 rfl ((hb1.cells' (cs' := [_, _]) 0 2 rfl)) rfl rfl) (l_o (o_callv (f := g) (fst := fst) (cap := cap) rfl hin rfl (hp _ (Ext.of_below hB)) rfl ?_)))))))
 rintro _ w2 ⟨rfl, hE2⟩
 replace hB := below_ext hB hE2 hsz
 replace hsz := Nat.le_trans hsz hE2.size
 refine l_q (q_not rfl rfl) (l_q (qab rfl rfl) (l_nil (r_ret_ (vs := [.bool _]) rfl Try.func69 rfl (.nil _) ⟨rfl, trivial⟩ ?_)))
 exact ⟨rfl, Ext.of_below hB⟩
theorem all_rg_ret (a : Option Addr) (c : Nat) (xs : List RG) (g : FuncId) (fst cap : List Value) (q : RG → Bool) (w : World) (hrow : Row w a xs.length c 2 (xs.flatMap RG.enc)) (hin : ∀ args w, (callFunc g args).run Try.prog w = .ok (.enter g args) w) (hp : ∀ w', Ext w w' → ∀ x ∈ xs, Ret Try.prog g (fst ++ [.agg ⟨RG.enc x⟩] ++ cap) w' (fun r w'' => r = .bool (q x) ∧ Ext w' w'')) (hn : xs.length ≤ 9223372036854775806) : Ret Try.prog 46 [.slice a xs.length c, .func (.func g) ⟨fst⟩ ⟨cap⟩] w (fun v w' => v = .bool (xs.all q) ∧ Ext w w') := by
 have hB := Below.refl w.heap.size w
 have hsz : w.heap.size ≤ w.heap.size := Nat.le_refl _
 refine ret_of_runs (args := [_, _]) Try.func46 rfl (Nat.le_of_ble_eq_true rfl) (by kernel_rfl) (r_seq (r_region' (l_o (o_box rfl rfl rfl ?_))))
 intro b1 w1 hzl1 hzr1 _ hb1 hE1
 have hbs_b1 : w.heap.size ≤ b1 := Nat.le_trans hsz hzl1
 replace hB := below_ext hB hE1 hsz
 replace hsz := Nat.le_trans hsz hE1.size
 refine l_q (qab rfl rfl) (l_nil (r_seq (r_region' (l_q (qms rfl rfl) (l_q (q_makeFunc (v := .func _ ⟨[]⟩ ⟨[_]⟩) rfl rfl) (l_o (o_call Try.call68 rfl (containsFunc_rg_ret _ _ xs 69 [] [ptr b1 0] (fun x => !q x) _ (hrow.below hB) Try.call69 (fun w' hw x hx => all1_rg_ret _ _ _ _ _ _ _ (hb1.ext hw) hin (fun w'' hw'' => hp _ ((Ext.of_below hB).trans (hw.trans hw'')) x hx)) hn) rfl ?_)))))))
 rintro _ w2 ⟨rfl, hE2⟩
 replace hB := below_ext hB hE2 hsz
 replace hsz := Nat.le_trans hsz hE2.size
 refine l_q (q_not rfl rfl) (l_q (qab rfl rfl) (l_nil (r_ret_ (vs := [.bool _]) rfl Try.func46 rfl (.nil _) ⟨rfl, trivial⟩ ?_)))
 exact ⟨vbool_eq (by rw [List.all_eq_not_any_not]), Ext.of_below hB⟩
theorem rminimum_ret (xa : Option Addr) (xc : Nat) (xs : List Int) (w : World) (hx : Row w xa xs.length xc 1 (xs.map vint)) (hxn : xs.length ≤ 2097152) (h0 : 0 < xs.length) : Ret Try.prog 43 [.slice xa xs.length xc] w (fun v w' => v = vint (minOf xs) ∧ Ext w w') := by
 have hB := Below.refl w.heap.size w
 have hsz : w.heap.size ≤ w.heap.size := Nat.le_refl _
 refine ret_of_runs (args := [_]) Try.func43 rfl (Nat.le_of_ble_eq_true rfl) (by kernel_rfl) (r_seq (r_region' (l_q (qai rfl rfl) (l_nil (r_seq (r_region' (l_q (qms rfl rfl) (l_o (o_call Try.call67 rfl (min_ret _ _ xs _ (hx.below hB) (by first | omega | simp) (by first | omega | simp)) rfl ?_)))))))))
 rintro _ w1 ⟨rfl, hE1⟩
 replace hB := below_ext hB hE1 hsz
 replace hsz := Nat.le_trans hsz hE1.size
 refine l_q (qai rfl rfl) (l_nil (r_ret_ (vs := [.int _ _]) rfl Try.func43 rfl (.nil _) ⟨rfl, trivial⟩ ?_))
 exact ⟨rfl, Ext.of_below hB⟩
theorem clone_ret (xa : Option Addr) (xc : Nat) (xs : List Int) (w : World) (hx : Row w xa xs.length xc 1 (xs.map vint)) (hxn : xs.length ≤ 2097152) : Ret Try.prog 21 [.slice xa xs.length xc] w (fun v w' => ∃ ra0 rc0, v = .slice ra0 (xs).length rc0 ∧ w'.ownsRow w.heap.size 3 1 (.slice ra0 (xs).length rc0) (xs).length ((xs).map vint) ∧ Ext w w') := by
 have hB := Below.refl w.heap.size w
 have hsz : w.heap.size ≤ w.heap.size := Nat.le_refl _
 refine ret_of_runs (args := [_]) Try.func21 rfl (Nat.le_of_ble_eq_true rfl) (by kernel_rfl) (r_seq (r_region' (l_q (qas rfl rfl) (l_nil (r_seq (r_seq (r_region' (l_q (qms rfl rfl) (l_q (q_eql_nil Try.underlying26 rfl rfl rfl) (l_nil (r_cond rfl (fun hc1 => ?_) (fun hc1 => ?_))))))))))))
 ·
  have hx0 : xs = [] := row_none (hx.below hB) hc1
  subst hx0
  refine r_seq (r_region' (l_q (qas rfl rfl) (l_nil (r_ret_ (vs := [.slice _ _ _]) rfl Try.func21 rfl (.nil _) ⟨rfl, trivial⟩ ?_))))
  exact ⟨_, _, rfl, World.ownsRow_nil _ _ _ _, Ext.of_below hB⟩
 ·
  refine r_skip (r_seq (r_region' (l_o (o_buildSlice (el := 3) (cs := []) Try.underlying26 el3 (by decide) (by kernel_rfl) rfl (by decide) rfl ?_))))
  intro b2 w2 hzl2 hzr2 _ hb2 hE2 ho2
  have hbs_b2 : w.heap.size ≤ b2 := Nat.le_trans hsz hzl2
  replace hB := below_ext hB hE2 hsz
  replace hsz := Nat.le_trans hsz hE2.size
  refine l_q (qms rfl rfl) (l_o (o_append_map (f := vint) ([]) (xs) Try.underlying26 el3 rfl rfl ho2 rfl (hx.below hB) (fun _ => rfl) (by (try simp only [List.length_append, List.length_cons, List.length_nil, List.length_take, List.length_drop, List.length_replicate]); omega) (by omega) rfl ?_))
  intro a3 c3 w3 hz3 ho3 hG3
  replace hB := below_own hB hG3 ho2 (by omega) hsz
  replace hsz := Nat.le_trans hsz hG3.size
  refine l_q (qas rfl rfl) (l_nil (r_ret_ (vs := [.slice _ _ _]) rfl Try.func21 rfl (.nil _) ⟨rfl, trivial⟩ ?_))
  exact ⟨_, _, rfl, ho3, Ext.of_below hB⟩
theorem need_ret (n : Int) (w : World) : Ret Try.prog 38 [vint n] w (fun v w' => v = .bool (okNeed n) ∧ w = w') := by
 have hB := Below.refl w.heap.size w
 have hsz : w.heap.size ≤ w.heap.size := Nat.le_refl _
 refine ret_of_runs (args := [_]) Try.func38 rfl (Nat.le_of_ble_eq_true rfl) (by kernel_rfl) (r_seq (r_region' (l_q (qab rfl rfl) (l_nil (r_seq (r_region' (l_q (qmi rfl rfl) (l_o (o_call Try.call39 rfl (rwithin_ret _ _ _ _) rfl ?_)))))))))
 rintro _ w1 ⟨rfl, rfl⟩
 refine l_q (qab rfl rfl) (l_nil (r_ret_ (vs := [.bool _]) rfl Try.func38 rfl (.nil _) ⟨rfl, trivial⟩ ?_))
 exact ⟨rfl, rfl⟩
theorem person_ret (na : Option Addr) (nc : Nat) (nd : List Int) (pa : Option Addr) (pc : Nat) (pl : List PV) (ca : Option Addr) (cc : Nat) (L : List SV) (x : PV) (w : World) : Ret Try.prog 35 [.agg ⟨[.slice na nd.length nc, .slice pa pl.length pc, .slice ca L.length cc]⟩, .agg ⟨[.slice x.a x.ab.length x.c, vint x.r, vint x.m]⟩] w (fun v w' => v = .bool (okPerson nd.length x.pn) ∧ Ext w w') := by
 have hB := Below.refl w.heap.size w
 have hsz : w.heap.size ≤ w.heap.size := Nat.le_refl _
 refine ret_of_runs (args := [_, _]) Try.func35 rfl (Nat.le_of_ble_eq_true rfl) (by kernel_rfl) (r_seq (r_region' (l_o (o_box rfl rfl rfl ?_))))
 intro b1 w1 hzl1 hzr1 _ hb1 hE1
 have hbs_b1 : w.heap.size ≤ b1 := Nat.le_trans hsz hzl1
 replace hB := below_ext hB hE1 hsz
 replace hsz := Nat.le_trans hsz hE1.size
 refine l_o (o_box rfl rfl rfl ?_)
 intro b2 w2 hzl2 hzr2 _ hb2 hE2
 have hbs_b2 : w.heap.size ≤ b2 := Nat.le_trans hsz hzl2
 replace hB := below_ext hB hE2 hsz
 replace hb1 := hb1.ext hE2
 replace hsz := Nat.le_trans hsz hE2.size
 refine l_q (qab rfl rfl) (l_nil (r_seq (r_region' (l_q (q_fieldAddr (o' := 0) rfl fld45_0 rfl) (l_q (q_load Try.isAgg43 rfl ((hb2.has (o := 0) rfl)) rfl) (l_q (q_len rfl Try.underlying43 rfl rfl) (l_q (q_fieldAddr (o' := 0) rfl fld29_0 rfl) (l_q (q_load Try.isAgg26 rfl ((hb1.has (o := 0) rfl)) rfl) (l_q (q_len rfl Try.underlying26 rfl rfl) (l_q (q_eql rfl rfl rfl) (l_q (qmb rfl rfl) (l_part 12 rfl (fun hc3 => ?_) (fun hc3 => ?_)))))))))))))
 ·
  replace hc3 := dt hc3
  have g1 := hc3
  refine l_q (q_fieldAddr (o' := 1) rfl fld45_1 rfl) (l_q (q_load Try.isAgg3 rfl ((hb2.has (o := 1) rfl)) rfl) (l_o (o_call Try.call39 rfl (rwithin_ret _ _ _ _) rfl ?_)))
  rintro _ w4 ⟨rfl, rfl⟩
  refine l_q (q_pick_t (v := .bool _) rfl rfl rfl) (l_q (qmb rfl rfl) (l_part 17 rfl (fun hc5 => ?_) (fun hc5 => ?_)))
  ·
   replace hc5 := b2t hc5
   have g2 := hc5
   refine l_q (q_fieldAddr (o' := 2) rfl fld45_2 rfl) (l_q (q_load Try.isAgg3 rfl ((hb2.has (o := 2) rfl)) rfl) (l_o (o_call Try.call39 rfl (rwithin_ret _ _ _ _) rfl ?_)))
   rintro _ w6 ⟨rfl, rfl⟩
   refine l_q (q_pick_t (v := .bool _) rfl rfl rfl) (l_q (qab rfl rfl) (l_nil (r_forget [(4, .bool _)] ⟨rfl, trivial⟩ (fun e7 => (r_ret_ (vs := [.bool _]) rfl Try.func35 rfl (.nil _) ⟨rfl, trivial⟩ ?_)))))
   exact ⟨vbool_eq (by unfold okPerson PV.pn; simp_all <;> omega), Ext.of_below hB⟩
  ·
   replace hc5 := b2f hc5
   have g2 := hc5
   refine l_q (q_skip rfl) (l_q (q_skip rfl) (l_q (q_skip rfl) (l_q (q_pick_f (v := .bool _) rfl rfl rfl) (l_q (qab rfl rfl) (l_nil (r_forget [(4, .bool _)] ⟨rfl, trivial⟩ (fun e8 => (r_ret_ (vs := [.bool _]) rfl Try.func35 rfl (.nil _) ⟨rfl, trivial⟩ ?_))))))))
   exact ⟨vbool_eq (by unfold okPerson PV.pn; simp_all <;> omega), Ext.of_below hB⟩
 ·
  replace hc3 := df hc3
  have g1 := hc3
  refine l_q (q_skip rfl) (l_q (q_skip rfl) (l_q (q_skip rfl) (l_q (q_pick_f (v := .bool _) rfl rfl rfl) (l_q (qmb rfl rfl) (l_q (q_skip rfl) (l_q (q_skip rfl) (l_q (q_skip rfl) (l_q (q_pick_f (v := .bool _) rfl rfl rfl) (l_q (qab rfl rfl) (l_nil (r_forget [(4, .bool _)] ⟨rfl, trivial⟩ (fun e9 => (r_ret_ (vs := [.bool _]) rfl Try.func35 rfl (.nil _) ⟨rfl, trivial⟩ ?_)))))))))))))
  exact ⟨vbool_eq (by unfold okPerson PV.pn; simp_all <;> omega), Ext.of_below hB⟩
theorem ill1_ret (na : Option Addr) (nc : Nat) (nd : List Int) (pa : Option Addr) (pc : Nat) (pl : List PV) (ca : Option Addr) (cc : Nat) (L : List SV) (n : Int) (b : Nat) (w : World) (hb : Blk w b [.slice na nd.length nc, .slice pa pl.length pc, .slice ca L.length cc]) (hnl : nd.length ≤ 2097152) : Ret Try.prog 59 [vint n, ptr b 0] w (fun v w' => v = .bool (illIn nd.length n) ∧ Ext w w') := by
 have hbl := hb.lt
 have hB := Below.refl w.heap.size w
 have hsz : w.heap.size ≤ w.heap.size := Nat.le_refl _
 refine ret_of_runs (args := [_, _]) Try.func59 rfl (Nat.le_of_ble_eq_true rfl) (by kernel_rfl) (r_seq (r_region' (l_q (qab rfl rfl) (l_nil (r_seq (r_region' (l_q (qmi rfl rfl) (l_q (q_fieldAddr (o' := 0) rfl fld29_0 rfl) (l_q (q_load Try.isAgg26 rfl (((hb.below hB (by omega)).has (o := 0) rfl)) rfl) (l_q (q_len rfl Try.underlying26 rfl rfl) (l_q (q_sub rfl rfl (by omega) rfl) (l_o (o_call Try.call39 rfl (rwithin_ret _ _ _ _) rfl ?_)))))))))))))
 rintro _ w1 ⟨rfl, rfl⟩
 refine l_q (qab rfl rfl) (l_nil (r_ret_ (vs := [.bool _]) rfl Try.func59 rfl (.nil _) ⟨rfl, trivial⟩ ?_))
 exact ⟨rfl, Ext.of_below hB⟩
theorem ill_ret (na : Option Addr) (nc : Nat) (nd : List Int) (pa : Option Addr) (pc : Nat) (pl : List PV) (ca : Option Addr) (cc : Nat) (L : List SV) (xa : Option Addr) (xc : Nat) (xs : List Int) (w : World) (hnl : nd.length ≤ 2097152) (hx : Row w xa xs.length xc 1 (xs.map vint)) (hxn : xs.length ≤ 2097152) : Ret Try.prog 36 [.agg ⟨[.slice na nd.length nc, .slice pa pl.length pc, .slice ca L.length cc]⟩, .slice xa xs.length xc] w (fun v w' => v = .bool (okIll nd.length pl.length xs) ∧ Ext w w') := by
 have hB := Below.refl w.heap.size w
 have hsz : w.heap.size ≤ w.heap.size := Nat.le_refl _
 refine ret_of_runs (args := [_, _]) Try.func36 rfl (Nat.le_of_ble_eq_true rfl) (by kernel_rfl) (r_seq (r_region' (l_o (o_box rfl rfl rfl ?_))))
 intro b1 w1 hzl1 hzr1 _ hb1 hE1
 have hbs_b1 : w.heap.size ≤ b1 := Nat.le_trans hsz hzl1
 replace hB := below_ext hB hE1 hsz
 replace hsz := Nat.le_trans hsz hE1.size
 refine l_q (qab rfl rfl) (l_nil (r_seq (r_region' (l_q (qms rfl rfl) (l_q (q_len rfl Try.underlying26 rfl rfl) (l_q (q_fieldAddr (o' := 1) rfl fld29_1 rfl) (l_q (q_load Try.isAgg27 rfl ((hb1.has (o := 1) rfl)) rfl) (l_q (q_len rfl Try.underlying27 rfl rfl) (l_q (q_eql rfl rfl rfl) (l_q (qmb rfl rfl) (l_part 11 rfl (fun hc2 => ?_) (fun hc2 => ?_))))))))))))
 ·
  replace hc2 := dt hc2
  refine l_q (qms rfl rfl) (l_q (q_makeFunc (v := .func _ ⟨[]⟩ ⟨[_]⟩) rfl rfl) (l_o (o_call Try.call37 rfl (all_int_of 0 (q := illIn nd.length) Try.call59 (hx.below hB) (fun w' hw x hx => ill1_ret na nc nd pa pc pl ca cc L _ _ _ (hb1.ext hw) hnl) (by omega)) rfl ?_)))
  rintro _ w3 ⟨rfl, hE3⟩
  replace hB := below_ext hB hE3 hsz
  replace hsz := Nat.le_trans hsz hE3.size
  refine l_q (q_pick_t (v := .bool _) rfl rfl rfl) (l_q (qab rfl rfl) (l_nil (r_forget [(4, .bool _)] ⟨rfl, trivial⟩ (fun e4 => (r_ret_ (vs := [.bool _]) rfl Try.func36 rfl (.nil _) ⟨rfl, trivial⟩ ?_)))))
  exact ⟨vbool_eq (by unfold okIll; simp_all), Ext.of_below hB⟩
 ·
  replace hc2 := df hc2
  refine l_q (q_skip rfl) (l_q (q_skip rfl) (l_q (q_skip rfl) (l_q (q_pick_f (v := .bool _) rfl rfl rfl) (l_q (qab rfl rfl) (l_nil (r_forget [(4, .bool _)] ⟨rfl, trivial⟩ (fun e5 => (r_ret_ (vs := [.bool _]) rfl Try.func36 rfl (.nil _) ⟨rfl, trivial⟩ ?_))))))))
  exact ⟨vbool_eq (by unfold okIll; simp_all), Ext.of_below hB⟩
theorem checkPost_ret (na : Option Addr) (nc : Nat) (nd : List Int) (pa : Option Addr) (pc : Nat) (pl : List PV) (ca : Option Addr) (cc : Nat) (L : List SV) (w : World) (hpo : PoAt w na nc nd pa pc pl ca cc L) (hnl : nd.length ≤ 2097152) (hpll : pl.length ≤ 2097152) (hLl : L.length ≤ 2097152) (hLL : ∀ s ∈ L, s.xs.length ≤ 2097152) : Ret Try.prog 13 [.agg ⟨[.slice na nd.length nc, .slice pa pl.length pc, .slice ca L.length cc]⟩] w (fun v w' => v = vint (faultP (po nd pl L)) ∧ Ext w w') := by
 have hB := Below.refl w.heap.size w
 have hsz : w.heap.size ≤ w.heap.size := Nat.le_refl _
 refine ret_of_runs (args := [_]) Try.func13 rfl (Nat.le_of_ble_eq_true rfl) (by kernel_rfl) (r_seq (r_region' (l_o (o_box rfl rfl rfl ?_))))
 intro b1 w1 hzl1 hzr1 _ hb1 hE1
 have hbs_b1 : w.heap.size ≤ b1 := Nat.le_trans hsz hzl1
 replace hB := below_ext hB hE1 hsz
 replace hsz := Nat.le_trans hsz hE1.size
 refine l_q (qai rfl rfl) (l_nil (r_seq (r_draw ext_refl' ext_trans' [0, 1, 2, 3, 4, 5] [] 2 (by kernel_rfl) (by kernel_rfl) ?_)))
 intro w2 _ hE2
 replace hB := below_ext hB hE2 hsz
 replace hb1 := hb1.ext hE2
 replace hsz := Nat.le_trans hsz hE2.size
 refine m_q rfl rfl (fun w' hC' => q_load_agg (n := 3) Try.isAgg29 Try.sizeOf29 rfl (((hb1.cells' (cs' := [_, _, _]) 0 3 rfl).ext hC')) rfl rfl) (m_q rfl rfl (fun w' hC' => q_makeFunc (v := .func _ ⟨[_]⟩ ⟨[]⟩) rfl rfl) (m_q rfl rfl (fun w' hC' => q_load_agg (n := 3) Try.isAgg29 Try.sizeOf29 rfl (((hb1.cells' (cs' := [_, _, _]) 0 3 rfl).ext hC')) rfl rfl) (m_q rfl rfl (fun w' hC' => q_makeFunc (v := .func _ ⟨[_]⟩ ⟨[]⟩) rfl rfl) (m_q rfl rfl (fun w' hC' => q_assign (v := .func _ _ _) rfl rfl) (m_q rfl rfl (fun w' hC' => q_assign (v := .func _ _ _) rfl rfl) (m_nil (r_seq (r_block (r_seq (r_region' (l_q (q_fieldAddr (o' := 0) rfl fld29_0 rfl) (l_q (q_load Try.isAgg26 rfl ((hb1.has (o := 0) rfl)) rfl) (l_q (q_len rfl Try.underlying26 rfl rfl) (l_q (q_gtr rfl rfl rfl) (l_q (qmb rfl rfl) (l_part 14 rfl (fun hc3 => ?_) (fun hc3 => ?_)))))))))))))))))
 ·
  replace hc3 := dt hc3
  have g14 := hc3
  refine l_q (q_skip rfl) (l_q (q_skip rfl) (l_q (q_skip rfl) (l_q (q_skip rfl) (l_q (q_pick_t (v := .bool _) rfl rfl rfl) (l_q (qmb rfl rfl) (l_q (q_skip rfl) (l_q (q_skip rfl) (l_q (q_skip rfl) (l_q (q_skip rfl) (l_q (q_pick_t (v := .bool _) rfl rfl rfl) (l_q (qab rfl rfl) (l_nil (r_forget [(1, .pointer _), (3, .func _ _ _), (4, .func _ _ _), (9, .bool _)] ⟨rfl, rfl, rfl, rfl, trivial⟩ (fun e4 => (r_cond_t rfl (r_seq (r_region' (l_q (qai rfl rfl) (l_nil (r_ret_ (vs := [.int _ _]) rfl Try.func13 rfl (.nil _) ⟨rfl, trivial⟩ ?_))))))))))))))))))))
  exact ⟨vint_eq (fault_3 (by omega)).symm, Ext.of_below hB⟩
 ·
  replace hc3 := dlt hc3
  have g14 := hc3
  refine l_q (q_fieldAddr (o' := 1) rfl fld29_1 rfl) (l_q (q_load Try.isAgg27 rfl ((hb1.has (o := 1) rfl)) rfl) (l_q (q_len rfl Try.underlying27 rfl rfl) (l_q (q_gtr rfl rfl rfl) (l_q (q_pick_f (v := .bool _) rfl rfl rfl) (l_q (qmb rfl rfl) (l_part 20 rfl (fun hc5 => ?_) (fun hc5 => ?_)))))))
  ·
   replace hc5 := dt hc5
   have g20 := hc5
   refine l_q (q_skip rfl) (l_q (q_skip rfl) (l_q (q_skip rfl) (l_q (q_skip rfl) (l_q (q_pick_t (v := .bool _) rfl rfl rfl) (l_q (qab rfl rfl) (l_nil (r_forget [(1, .pointer _), (3, .func _ _ _), (4, .func _ _ _), (9, .bool _)] ⟨rfl, rfl, rfl, rfl, trivial⟩ (fun e6 => (r_cond_t rfl (r_seq (r_region' (l_q (qai rfl rfl) (l_nil (r_ret_ (vs := [.int _ _]) rfl Try.func13 rfl (.nil _) ⟨rfl, trivial⟩ ?_))))))))))))))
   exact ⟨vint_eq (fault_3 (by omega)).symm, Ext.of_below hB⟩
  ·
   replace hc5 := dlt hc5
   have g20 := hc5
   refine l_q (q_fieldAddr (o' := 2) rfl fld29_2 rfl) (l_q (q_load Try.isAgg22 rfl ((hb1.has (o := 2) rfl)) rfl) (l_q (q_len rfl Try.underlying22 rfl rfl) (l_q (q_gtr rfl rfl rfl) (l_q (q_pick_f (v := .bool _) rfl rfl rfl) (l_q (qab rfl rfl) (l_nil (r_forget [(1, .pointer _), (3, .func _ _ _), (4, .func _ _ _), (9, .bool _)] ⟨rfl, rfl, rfl, rfl, trivial⟩ (fun e7 => (r_cond rfl (fun hc8 => ?_) (fun hc8 => ?_))))))))))
   ·
    replace hc8 := dt hc8
    have g9 := hc8
    refine r_seq (r_region' (l_q (qai rfl rfl) (l_nil (r_ret_ (vs := [.int _ _]) rfl Try.func13 rfl (.nil _) ⟨rfl, trivial⟩ ?_))))
    exact ⟨vint_eq (fault_3 (by omega)).symm, Ext.of_below hB⟩
   ·
    replace hc8 := dlt hc8
    have g9 := hc8
    refine r_seq (r_region' (l_q (q_fieldAddr (o' := 0) rfl fld29_0 rfl) (l_q (q_load Try.isAgg26 rfl ((hb1.has (o := 0) rfl)) rfl) (l_q (q_len rfl Try.underlying26 rfl rfl) (l_q (q_eql rfl rfl rfl) (l_q (qmb rfl rfl) (l_part 31 rfl (fun hc9 => ?_) (fun hc9 => ?_))))))))
    ·
     replace hc9 := dt hc9
     have g31 := hc9
     refine l_q (q_skip rfl) (l_q (q_skip rfl) (l_q (q_skip rfl) (l_q (q_skip rfl) (l_q (q_pick_t (v := .bool _) rfl rfl rfl) (l_q (qmb rfl rfl) (l_q (q_skip rfl) (l_q (q_skip rfl) (l_q (q_skip rfl) (l_q (q_skip rfl) (l_q (q_pick_t (v := .bool _) rfl rfl rfl) (l_q (qmb rfl rfl) (l_q (q_skip rfl) (l_q (q_skip rfl) (l_q (q_skip rfl) (l_q (q_skip rfl) (l_q (q_skip rfl) (l_q (q_pick_t (v := .bool _) rfl rfl rfl) (l_q (qmb rfl rfl) (l_q (q_skip rfl) (l_q (q_skip rfl) (l_q (q_skip rfl) (l_q (q_skip rfl) (l_q (q_skip rfl) (l_q (q_pick_t (v := .bool _) rfl rfl rfl) (l_q (qab rfl rfl) (l_nil (r_forget [(26, .bool _)] ⟨rfl, trivial⟩ (fun e10 => (r_cond_t rfl (r_seq (r_region' (l_q (qai rfl rfl) (l_nil (r_ret_ (vs := [.int _ _]) rfl Try.func13 rfl (.nil _) ⟨rfl, trivial⟩ ?_))))))))))))))))))))))))))))))))))
     exact ⟨vint_eq (fault_1 (by omega) (fun ⟨⟨⟨⟨h1, h2⟩, h3⟩, h4⟩, h5⟩ => by first | omega | exact absurd (h3.symm.trans g43) (by decide) | exact absurd (h4.symm.trans g50) (by decide) | exact absurd (h5.symm.trans g26) (by decide))).symm, Ext.of_below hB⟩
    ·
     replace hc9 := df hc9
     have g31 := hc9
     refine l_q (q_fieldAddr (o' := 1) rfl fld29_1 rfl) (l_q (q_load Try.isAgg27 rfl ((hb1.has (o := 1) rfl)) rfl) (l_q (q_len rfl Try.underlying27 rfl rfl) (l_q (q_eql rfl rfl rfl) (l_q (q_pick_f (v := .bool _) rfl rfl rfl) (l_q (qmb rfl rfl) (l_part 37 rfl (fun hc11 => ?_) (fun hc11 => ?_)))))))
     ·
      replace hc11 := dt hc11
      have g37 := hc11
      refine l_q (q_skip rfl) (l_q (q_skip rfl) (l_q (q_skip rfl) (l_q (q_skip rfl) (l_q (q_pick_t (v := .bool _) rfl rfl rfl) (l_q (qmb rfl rfl) (l_q (q_skip rfl) (l_q (q_skip rfl) (l_q (q_skip rfl) (l_q (q_skip rfl) (l_q (q_skip rfl) (l_q (q_pick_t (v := .bool _) rfl rfl rfl) (l_q (qmb rfl rfl) (l_q (q_skip rfl) (l_q (q_skip rfl) (l_q (q_skip rfl) (l_q (q_skip rfl) (l_q (q_skip rfl) (l_q (q_pick_t (v := .bool _) rfl rfl rfl) (l_q (qab rfl rfl) (l_nil (r_forget [(26, .bool _)] ⟨rfl, trivial⟩ (fun e12 => (r_cond_t rfl (r_seq (r_region' (l_q (qai rfl rfl) (l_nil (r_ret_ (vs := [.int _ _]) rfl Try.func13 rfl (.nil _) ⟨rfl, trivial⟩ ?_))))))))))))))))))))))))))))
      exact ⟨vint_eq (fault_1 (by omega) (fun ⟨⟨⟨⟨h1, h2⟩, h3⟩, h4⟩, h5⟩ => by first | omega | exact absurd (h3.symm.trans g43) (by decide) | exact absurd (h4.symm.trans g50) (by decide) | exact absurd (h5.symm.trans g26) (by decide))).symm, Ext.of_below hB⟩
     ·
      replace hc11 := df hc11
      have g37 := hc11
      refine l_q (q_fieldAddr (o' := 0) rfl fld29_0 rfl) (l_q (q_load Try.isAgg26 rfl ((hb1.has (o := 0) rfl)) rfl) (l_o (o_call Try.call37 rfl (all_int_of 0 (q := okNeed) Try.call38 (hpo.rnd.below hB) (fun w' hw x hx => (need_ret x w').mono (fun v w2 h => ⟨h.1, h.2 ▸ Ext.refl _⟩)) (by omega)) rfl ?_)))
      rintro _ w13 ⟨rfl, hE13⟩
      replace hB := below_ext hB hE13 hsz
      replace hb1 := hb1.ext hE13
      replace hsz := Nat.le_trans hsz hE13.size
      refine l_q (q_not rfl rfl) (l_q (q_pick_f (v := .bool _) rfl rfl rfl) (l_q (qmb rfl rfl) (l_part 43 rfl (fun hc14 => ?_) (fun hc14 => ?_))))
      ·
       replace hc14 := nt hc14
       have g43 := hc14
       refine l_q (q_skip rfl) (l_q (q_skip rfl) (l_q (q_skip rfl) (l_q (q_skip rfl) (l_q (q_skip rfl) (l_q (q_pick_t (v := .bool _) rfl rfl rfl) (l_q (qmb rfl rfl) (l_q (q_skip rfl) (l_q (q_skip rfl) (l_q (q_skip rfl) (l_q (q_skip rfl) (l_q (q_skip rfl) (l_q (q_pick_t (v := .bool _) rfl rfl rfl) (l_q (qab rfl rfl) (l_nil (r_forget [(26, .bool _)] ⟨rfl, trivial⟩ (fun e15 => (r_cond_t rfl (r_seq (r_region' (l_q (qai rfl rfl) (l_nil (r_ret_ (vs := [.int _ _]) rfl Try.func13 rfl (.nil _) ⟨rfl, trivial⟩ ?_))))))))))))))))))))))
       exact ⟨vint_eq (fault_1 (by omega) (fun ⟨⟨⟨⟨h1, h2⟩, h3⟩, h4⟩, h5⟩ => by first | omega | exact absurd (h3.symm.trans g43) (by decide) | exact absurd (h4.symm.trans g50) (by decide) | exact absurd (h5.symm.trans g26) (by decide))).symm, Ext.of_below hB⟩
      ·
       replace hc14 := nf hc14
       have g43 := hc14
       refine l_q (q_fieldAddr (o' := 1) rfl fld29_1 rfl) (l_q (q_load Try.isAgg27 rfl ((hb1.has (o := 1) rfl)) rfl) (l_q (q_move (v := .func _ _ _) rfl rfl) (l_o (o_call Try.call40 rfl (all_pv_ret _ _ pl 35 _ _ (fun x => okPerson nd.length x.pn) _ (hpo.rpl.below hB) Try.call35 (fun w' hw x hx => person_ret na nc nd pa pc pl ca cc L x _) (by omega)) rfl ?_))))
       rintro _ w16 ⟨rfl, hE16⟩
       replace hB := below_ext hB hE16 hsz
       replace hb1 := hb1.ext hE16
       replace hsz := Nat.le_trans hsz hE16.size
       refine l_q (q_not rfl rfl) (l_q (q_pick_f (v := .bool _) rfl rfl rfl) (l_q (qmb rfl rfl) (l_part 50 rfl (fun hc17 => ?_) (fun hc17 => ?_))))
       ·
        replace hc17 := nt hc17
        have g50 := hc17
        refine l_q (q_skip rfl) (l_q (q_skip rfl) (l_q (q_skip rfl) (l_q (q_skip rfl) (l_q (q_skip rfl) (l_q (q_pick_t (v := .bool _) rfl rfl rfl) (l_q (qab rfl rfl) (l_nil (r_forget [(26, .bool _)] ⟨rfl, trivial⟩ (fun e18 => (r_cond_t rfl (r_seq (r_region' (l_q (qai rfl rfl) (l_nil (r_ret_ (vs := [.int _ _]) rfl Try.func13 rfl (.nil _) ⟨rfl, trivial⟩ ?_)))))))))))))))
        exact ⟨vint_eq (fault_1 (by omega) (fun ⟨⟨⟨⟨h1, h2⟩, h3⟩, h4⟩, h5⟩ => by first | omega | exact absurd (h3.symm.trans g43) (by decide) | exact absurd (h4.symm.trans g50) (by decide) | exact absurd (h5.symm.trans g26) (by decide))).symm, Ext.of_below hB⟩
       ·
        replace hc17 := nf hc17
        have g50 := hc17
        refine l_q (q_fieldAddr (o' := 2) rfl fld29_2 rfl) (l_q (q_load Try.isAgg22 rfl ((hb1.has (o := 2) rfl)) rfl) (l_q (q_move (v := .func _ _ _) rfl rfl) (l_o (o_call Try.call41 rfl (all_ints_of sv0 (f := SV.enc) (q := fun s => okIll nd.length pl.length s.xs) Try.call36 (hpo.rC.below hB) (fun w' hw s hs => ill_ret na nc nd pa pc pl ca cc L s.a s.c s.xs _ hnl ((hpo.rCr.ext ((Ext.of_below hB).trans hw)) s hs) (hLL s hs)) (by omega)) rfl ?_))))
        rintro _ w19 ⟨rfl, hE19⟩
        replace hB := below_ext hB hE19 hsz
        replace hsz := Nat.le_trans hsz hE19.size
        refine l_q (q_not rfl rfl) (l_q (q_pick_f (v := .bool _) rfl rfl rfl) (l_q (qab rfl rfl) (l_nil (r_forget [(26, .bool _)] ⟨rfl, trivial⟩ (fun e20 => (r_cond rfl (fun hc21 => ?_) (fun hc21 => ?_)))))))
        ·
         replace hc21 := nt hc21
         have g26 := hc21
         refine r_seq (r_region' (l_q (qai rfl rfl) (l_nil (r_ret_ (vs := [.int _ _]) rfl Try.func13 rfl (.nil _) ⟨rfl, trivial⟩ ?_))))
         exact ⟨vint_eq (fault_1 (by omega) (fun ⟨⟨⟨⟨h1, h2⟩, h3⟩, h4⟩, h5⟩ => by first | omega | exact absurd (h3.symm.trans g43) (by decide) | exact absurd (h4.symm.trans g50) (by decide) | exact absurd (h5.symm.trans g26) (by decide))).symm, Ext.of_below hB⟩
        ·
         replace hc21 := nf hc21
         have g26 := hc21
         refine r_skip (r_inBlock (r_seq (r_region' (l_q (qai rfl rfl) (l_nil (r_ret_ (vs := [.int _ _]) rfl Try.func13 rfl (.nil _) ⟨rfl, trivial⟩ ?_))))))
         exact ⟨vint_eq (fault_0 (by omega) ⟨⟨⟨⟨by omega, by omega⟩, g43⟩, g50⟩, g26⟩).symm, Ext.of_below hB⟩
theorem indexFuncM_ret (m : Nat) (J : Nat → List Value) (xa : Option Addr) (xc : Nat) (xs : List Int) (g : FuncId) (fst cap : List Value) (p : Nat → Bool) (w : World) (hrow : ∀ w', w.grownBy w' (some m) → Row w' xa xs.length xc 1 (xs.map vint)) (hin : ∀ args w, (callFunc g args).run Try.prog w = .ok (.enter g args) w) (hp : ∀ k, k < xs.length → (∀ j, j < k → p j = false) → ∀ w', w.grownBy w' (some m) → Blk w' m (J k) → Ret Try.prog g (fst ++ [vint (xs.getD k 0)] ++ cap) w' (fun r w'' => r = .bool (p k) ∧ w'.grownBy w'' (some m) ∧ Blk w'' m (J (k + 1)))) (hn : xs.length ≤ 2097152) (hm0 : Blk w m (J 0)) : Ret Try.prog 76 [.slice xa xs.length xc, .func (.func g) ⟨fst⟩ ⟨cap⟩] w (fun v w' => v = vint (idxI p xs.length) ∧ w.grownBy w' (some m)) := by
 have hBB := gm_refl m w
 have hm := hm0
 have hml := hm0.lt
 have hsz : w.heap.size ≤ w.heap.size := Nat.le_refl _
 refine ret_of_runs (args := [_, _]) Try.func76 rfl (Nat.le_of_ble_eq_true rfl) (by kernel_rfl) (r_seq (r_region' (l_q (qai rfl rfl) (l_nil (r_seq (r_seq (r_region' (l_q (qms rfl rfl) (l_q (q_len rfl Try.underlying26 rfl rfl) (l_q (qmi rfl rfl) (l_nil (r_block (r_rounds (α := Nat) (fun k e wl => Knows e [(0, .slice xa xs.length xc), (1, .func (.func g) ⟨fst⟩ ⟨cap⟩), (7, vint (xs.length : Int)), (8, vint (k : Int))] ∧ (k ≤ xs.length) ∧ (∀ i, i < k → p i = false) ∧ (Blk wl m (J k)) ∧ (w.grownBy wl (some m)) ∧ (w.heap.size ≤ wl.heap.size)) (fun k => xs.length - k) 0 ?_ ?_)))))))))))))
 ·
  exact ⟨⟨rfl, rfl, rfl, rfl, trivial⟩, (Nat.zero_le _), (fun i hi => absurd hi (Nat.not_lt_zero _)), hm, hBB, hsz⟩
 ·
  rintro k el1 wl1 ⟨hkn, hk, hno, hm, hBB, hsz⟩ ih1
  obtain ⟨e1, rfl⟩ := knows_env hkn
  refine r_seq (r_region' (l_q (q_lss rfl rfl rfl) (l_nil (r_seq (r_cond rfl (fun hc2 => ?_) (fun hc2 => ?_))))))
  ·
   replace hc2 := dt hc2
   refine r_skip (r_seq (r_block (r_seq (r_region' (l_q (qmi rfl rfl) (l_q (qai rfl rfl) (l_nil (r_seq (r_region' (l_q (q_move (v := .func _ _ _) rfl rfl) (l_q (qms rfl rfl) (l_q (qmi rfl rfl) ?_))))))))))))
   obtain ⟨b3, o3, ha3, hh3⟩ := (hrow _ hBB).at1 k ((xs).getD k 0) (getD_some (by omega))
   refine l_q (q_indexAddr1 Try.underlying26 Try.sizeOf3 rfl ha3 rfl (by omega) rfl) (l_q (q_load Try.isAgg3 rfl (hh3) rfl) (l_o (o_callv (f := g) (fst := fst) (cap := cap) rfl hin rfl (hp k (by omega) hno _ hBB hm) rfl ?_)))
   rintro _ w4 ⟨rfl, hbn4, hmn4⟩
   replace hBB := grown_trans hBB hbn4
   replace hm := hmn4
   replace hsz := Nat.le_trans hsz hbn4.size
   refine l_nil (r_cond rfl (fun hc5 => ?_) (fun hc5 => ?_))
   ·
    refine r_seq (r_region' (l_q (qmi rfl rfl) (l_q (qai rfl rfl) (l_nil (r_forget [(4, .int _ _)] ⟨rfl, trivial⟩ (fun e6 => (r_ret_ (vs := [.int _ _]) rfl Try.func76 rfl (.nil _) ⟨rfl, trivial⟩ ?_)))))))
    exact ⟨vint_eq (idxI_found (p := p) (by omega) (by assumption) hno).symm, hBB⟩
   ·
    refine r_skip (r_inBlock (r_region' (l_q (q_add rfl rfl (by omega) rfl) (l_q (qmi rfl rfl) (l_nil (r_forget [(0, .slice _ _ _), (1, .func _ _ _), (7, .int _ _), (8, .int _ _)] ⟨rfl, rfl, rfl, rfl, trivial⟩ (fun e7 => ?_)))))))
    exact ih1 (k + 1) _ _ ⟨⟨rfl, rfl, rfl, by first | rfl | exact vint_eq (by omega), trivial⟩, (by omega), (fun i hi => by rcases Nat.lt_succ_iff_lt_or_eq.1 hi with h | h; exact hno i h; subst h; assumption), hm, hBB, hsz⟩ (by first | omega | (dsimp only; omega))
  ·
   replace hc2 := dlt hc2
   refine r_exit rfl (r_seq (r_region' (l_q (qai rfl rfl) (l_nil (r_ret_ (vs := [.int _ _]) rfl Try.func76 rfl (.nil _) ⟨rfl, trivial⟩ ?_)))))
   exact ⟨vint_eq (idxI_none (p := p) (fun i hi => hno i (by omega))).symm, hBB⟩
theorem containsFuncM_ret (m : Nat) (J : Nat → List Value) (xa : Option Addr) (xc : Nat) (xs : List Int) (g : FuncId) (fst cap : List Value) (p : Nat → Bool) (w : World) (hrow : ∀ w', w.grownBy w' (some m) → Row w' xa xs.length xc 1 (xs.map vint)) (hin : ∀ args w, (callFunc g args).run Try.prog w = .ok (.enter g args) w) (hp : ∀ k, k < xs.length → (∀ j, j < k → p j = false) → ∀ w', w.grownBy w' (some m) → Blk w' m (J k) → Ret Try.prog g (fst ++ [vint (xs.getD k 0)] ++ cap) w' (fun r w'' => r = .bool (p k) ∧ w'.grownBy w'' (some m) ∧ Blk w'' m (J (k + 1)))) (hn : xs.length ≤ 2097152) (hm0 : Blk w m (J 0)) : Ret Try.prog 60 [.slice xa xs.length xc, .func (.func g) ⟨fst⟩ ⟨cap⟩] w (fun v w' => v = .bool ((List.range xs.length).any p) ∧ w.grownBy w' (some m)) := by
 have hBB := gm_refl m w
 have hm := hm0
 have hml := hm0.lt
 have hsz : w.heap.size ≤ w.heap.size := Nat.le_refl _
 refine ret_of_runs (args := [_, _]) Try.func60 rfl (Nat.le_of_ble_eq_true rfl) (by kernel_rfl) (r_seq (r_region' (l_q (qab rfl rfl) (l_nil (r_seq (r_region' (l_q (qms rfl rfl) (l_q (q_move (v := .func _ _ _) rfl rfl) (l_o (o_call Try.call76 rfl (indexFuncM_ret m J _ _ xs _ _ _ p _ hrow hin hp hn hm0) rfl ?_))))))))))
 rintro _ w1 ⟨rfl, hbn1⟩
 replace hBB := grown_trans hBB hbn1
 replace hsz := Nat.le_trans hsz hbn1.size
 refine l_q (q_geq rfl rfl rfl) (l_q (qab rfl rfl) (l_nil (r_ret_ (vs := [.bool _]) rfl Try.func60 rfl (.nil _) ⟨rfl, trivial⟩ ?_)))
 exact ⟨vbool_eq (idxI_nonneg p _), hBB⟩
theorem all1M_ret (m b : Nat) (j1 : List Value) (x : Int) (g : FuncId) (fst cap : List Value) (q : Bool) (w : World) (hb : Blk w b [.func (.func g) ⟨fst⟩ ⟨cap⟩]) (hin : ∀ args w, (callFunc g args).run Try.prog w = .ok (.enter g args) w) (hp : Ret Try.prog g (fst ++ [vint x] ++ cap) w (fun r w'' => r = .bool q ∧ w.grownBy w'' (some m) ∧ Blk w'' m j1)) : Ret Try.prog 61 [vint x, ptr b 0] w (fun v w' => v = .bool (!q) ∧ w.grownBy w' (some m) ∧ Blk w' m j1) := by
 have hsz : w.heap.size ≤ w.heap.size := Nat.le_refl _
 refine ret_of_runs (args := [_, _]) Try.func61 rfl (Nat.le_of_ble_eq_true rfl) (by kernel_rfl) (r_seq (r_region' (l_q (qab rfl rfl) (l_nil (r_seq (r_region' (l_q (q_load Try.isAgg84 rfl ((hb.has (o := 0) rfl)) rfl) (l_q (qmi rfl rfl) (l_o (o_callv (f := g) (fst := fst) (cap := cap) rfl hin rfl (hp) rfl ?_))))))))))
 rintro _ w1 ⟨rfl, hbn, hmn⟩
 replace hsz := Nat.le_trans hsz hbn.size
 refine l_q (q_not rfl rfl) (l_q (qab rfl rfl) (l_nil (r_ret_ (vs := [.bool _]) rfl Try.func61 rfl (.nil _) ⟨rfl, trivial⟩ ?_)))
 exact ⟨rfl, hbn, hmn⟩
theorem allM_ret (m : Nat) (J : Nat → List Value) (xa : Option Addr) (xc : Nat) (xs : List Int) (g : FuncId) (fst cap : List Value) (p : Nat → Bool) (w : World) (hrow : ∀ w', w.grownBy w' (some m) → Row w' xa xs.length xc 1 (xs.map vint)) (hin : ∀ args w, (callFunc g args).run Try.prog w = .ok (.enter g args) w) (hp : ∀ k, k < xs.length → (∀ j, j < k → p j = true) → ∀ w', w.grownBy w' (some m) → Blk w' m (J k) → Ret Try.prog g (fst ++ [vint (xs.getD k 0)] ++ cap) w' (fun r w'' => r = .bool (p k) ∧ w'.grownBy w'' (some m) ∧ Blk w'' m (J (k + 1)))) (hn : xs.length ≤ 2097152) (hm0 : Blk w m (J 0)) : Ret Try.prog 37 [.slice xa xs.length xc, .func (.func g) ⟨fst⟩ ⟨cap⟩] w (fun v w' => v = .bool ((List.range xs.length).all p) ∧ w.grownBy w' (some m)) := by
 have hBB := gm_refl m w
 have hm := hm0
 have hml := hm0.lt
 have hsz : w.heap.size ≤ w.heap.size := Nat.le_refl _
 refine ret_of_runs (args := [_, _]) Try.func37 rfl (Nat.le_of_ble_eq_true rfl) (by kernel_rfl) (r_seq (r_region' (l_o (o_box rfl rfl rfl ?_))))
 intro b1 w1 hzl1 hzr1 _ hb1 hE1
 have hbs_b1 : w.heap.size ≤ b1 := Nat.le_trans hsz hzl1
 replace hBB := grown_trans hBB (grown_of_ext (some m) hE1)
 replace hm := Blk.ext hm hE1
 replace hsz := Nat.le_trans hsz hE1.size
 refine l_q (qab rfl rfl) (l_nil (r_seq (r_region' (l_q (qms rfl rfl) (l_q (q_makeFunc (v := .func _ ⟨[]⟩ ⟨[_]⟩) rfl rfl) (l_o (o_call Try.call60 rfl (containsFuncM_ret m J _ _ xs 61 [] [ptr b1 0] (fun k => !p k) _ (fun w' hw => hrow w' (grown_trans hBB hw)) Try.call61 (fun k hk hno w' hw hm' => all1M_ret m b1 (J (k + 1)) _ g fst cap (p k) w' (hb1.upd hw (by omega)) hin (hp k hk (fun j hj => by simpa using hno j hj) w' (grown_trans hBB hw) hm')) hn hm) rfl ?_)))))))
 rintro _ w2 ⟨rfl, hbn2⟩
 replace hBB := grown_trans hBB hbn2
 replace hsz := Nat.le_trans hsz hbn2.size
 refine l_q (q_not rfl rfl) (l_q (qab rfl rfl) (l_nil (r_ret_ (vs := [.bool _]) rfl Try.func37 rfl (.nil _) ⟨rfl, trivial⟩ ?_)))
 exact ⟨vbool_eq (by rw [List.all_eq_not_any_not]), hBB⟩
theorem incr1_ret (n la be : Int) (m b : Nat) (w : World) (hm : Blk w m [vint la]) (hb : Blk w b [vint be]) (hne : b ≠ m) (hla : -1 ≤ la ∧ la ≤ 2097152) (hbe : 0 ≤ be ∧ be ≤ 2097152) : Ret Try.prog 48 [vint n, ptr m 0, ptr b 0] w (fun v w' => v = .bool (decide (la + 1 ≤ n) && decide (n ≤ be - 1)) ∧ w.grownBy w' (some m) ∧ Blk w' m [vint n]) := by
 have hBB := gm_refl m w
 have hsz : w.heap.size ≤ w.heap.size := Nat.le_refl _
 refine ret_of_runs (args := [_, _, _]) Try.func48 rfl (Nat.le_of_ble_eq_true rfl) (by kernel_rfl) (r_seq (r_region' (l_q (qab rfl rfl) (l_nil (r_seq (r_region' (l_q (qmi rfl rfl) (l_q (q_load Try.isAgg3 rfl ((hm.has (o := 0) rfl)) rfl) (l_q (q_add rfl rfl (by omega) rfl) (l_q (q_load Try.isAgg3 rfl ((hb.has (o := 0) rfl)) rfl) (l_q (q_sub rfl rfl (by omega) rfl) (l_o (o_call Try.call39 rfl (rwithin_ret _ _ _ _) rfl ?_)))))))))))))
 rintro _ w1 ⟨rfl, rfl⟩
 refine l_q (qab rfl rfl) (l_nil (r_seq (r_region' (l_q (qmi rfl rfl) (l_o (o_store (vs := [vint n]) (cs' := [vint n]) Try.sizeOf3 rfl rfl rfl rfl hm (Nat.le_of_ble_eq_true rfl) rfl rfl ?_))))))
 intro w2 hz2 hm hG2
 replace hsz : w.heap.size ≤ w2.heap.size := by rw [hz2]; exact hsz
 replace hBB := grown_trans hBB hG2
 refine l_nil (r_forget [(5, .bool _)] ⟨rfl, trivial⟩ (fun e3 => (r_seq (r_region' (l_q (qmb rfl rfl) (l_q (qab rfl rfl) (l_nil (r_ret_ (vs := [.bool _]) rfl Try.func48 rfl (.nil _) ⟨rfl, trivial⟩ ?_))))))))
 exact ⟨rfl, hBB, hm⟩
theorem incr_ret (xa : Option Addr) (xc : Nat) (xs : List Int) (be : Int) (w : World) (hx : Row w xa xs.length xc 1 (xs.map vint)) (hxn : xs.length ≤ 2097152) (hbe : 0 ≤ be ∧ be ≤ 2097152) : Ret Try.prog 23 [.slice xa xs.length xc, vint be] w (fun v w' => v = .bool (risB xs be) ∧ Ext w w') := by
 have hB := Below.refl w.heap.size w
 have hsz : w.heap.size ≤ w.heap.size := Nat.le_refl _
 refine ret_of_runs (args := [_, _]) Try.func23 rfl (Nat.le_of_ble_eq_true rfl) (by kernel_rfl) (r_seq (r_region' (l_o (o_box rfl rfl rfl ?_))))
 intro b1 w1 hzl1 hzr1 _ hb1 hE1
 have hbs_b1 : w.heap.size ≤ b1 := Nat.le_trans hsz hzl1
 replace hB := below_ext hB hE1 hsz
 replace hsz := Nat.le_trans hsz hE1.size
 refine l_q (qab rfl rfl) (l_nil (r_seq (r_region' (l_o (o_alloc Try.zeroValue3 rfl rfl ?_)))))
 intro b2 w2 hzl2 hzr2 _ hb2 hE2
 have hne_b1_b2 : b1 ≠ b2 := by have := hb1.lt; omega
 have hbs_b2 : w.heap.size ≤ b2 := Nat.le_trans hsz hzl2
 replace hB := below_ext hB hE2 hsz
 replace hb1 := hb1.ext hE2
 replace hsz := Nat.le_trans hsz hE2.size
 refine l_o (o_store (vs := [vint (-1)]) (cs' := [vint (-1)]) Try.sizeOf3 rfl rfl rfl rfl hb2 (Nat.le_of_ble_eq_true rfl) rfl rfl ?_)
 intro w3 hz3 hb2 hG3
 replace hB := below_upd hB hG3 hsz (by omega)
 replace hsz : w.heap.size ≤ w3.heap.size := by rw [hz3]; exact hsz
 replace hb1 := hb1.upd hG3 (by omega)
 refine l_nil (r_seq (r_region' (l_q (qms rfl rfl) (l_q (q_makeFunc (v := .func _ ⟨[]⟩ ⟨[_, _]⟩) rfl rfl) (l_o (o_call Try.call37 rfl (allM_ret b2 (fun k => [vint (lastAt xs k)]) _ _ xs 48 [] [ptr b2 0, ptr b1 0] (rAt xs be) _ (fun w' hw => hx.ext (Ext.of_below (below_upd hB hw hsz (by omega)))) Try.call48 (fun k hk hno w' hw hm' => incr1_ret _ (lastAt xs k) be b2 b1 w' hm' (hb1.upd hw (by omega)) (by omega) (last_rng hbe hk hno) hbe) hxn hb2) rfl ?_))))))
 rintro _ w4 ⟨rfl, hbn⟩
 replace hB := below_upd hB hbn hsz (by omega)
 refine l_q (qab rfl rfl) (l_nil (r_ret_ (vs := [.bool _]) rfl Try.func23 rfl (.nil _) ⟨rfl, trivial⟩ ?_))
 exact ⟨rfl, Ext.of_below hB⟩
theorem check1_ret (na : Option Addr) (nc : Nat) (nd : List Int) (pa : Option Addr) (pc : Nat) (pl : List PV) (ca : Option Addr) (cc : Nat) (L : List SV) (xa : Option Addr) (xc : Nat) (xs : List Int) (b : Nat) (w : World) (hb : Blk w b [.slice na nd.length nc, .slice pa pl.length pc, .slice ca L.length cc]) (hpll : pl.length ≤ 2097152) (hx : Row w xa xs.length xc 1 (xs.map vint)) (hxn : xs.length ≤ 2097152) : Ret Try.prog 50 [.slice xa xs.length xc, ptr b 0] w (fun v w' => v = .bool (risB xs (pl.length : Int)) ∧ Ext w w') := by
 have hbl := hb.lt
 have hB := Below.refl w.heap.size w
 have hsz : w.heap.size ≤ w.heap.size := Nat.le_refl _
 refine ret_of_runs (args := [_, _]) Try.func50 rfl (Nat.le_of_ble_eq_true rfl) (by kernel_rfl) (r_seq (r_region' (l_q (qab rfl rfl) (l_nil (r_seq (r_region' (l_q (qms rfl rfl) (l_q (q_fieldAddr (o' := 1) rfl fld29_1 rfl) (l_q (q_load Try.isAgg27 rfl (((hb.below hB (by omega)).has (o := 1) rfl)) rfl) (l_q (q_len rfl Try.underlying27 rfl rfl) (l_o (o_call Try.call23 rfl (incr_ret _ _ xs _ _ (hx.below hB) (by omega) (by omega)) rfl ?_))))))))))))
 rintro _ w1 ⟨rfl, hE1⟩
 replace hB := below_ext hB hE1 hsz
 replace hsz := Nat.le_trans hsz hE1.size
 refine l_q (qab rfl rfl) (l_nil (r_ret_ (vs := [.bool _]) rfl Try.func50 rfl (.nil _) ⟨rfl, trivial⟩ ?_))
 exact ⟨rfl, Ext.of_below hB⟩
theorem rcheck_ret (na : Option Addr) (nc : Nat) (nd : List Int) (pa : Option Addr) (pc : Nat) (pl : List PV) (ca : Option Addr) (cc : Nat) (L : List SV) (ra : Option Addr) (rc : Nat) (R : List SV) (w : World) (hpo : PoAt w na nc nd pa pc pl ca cc L) (hnl : nd.length ≤ 2097152) (hpll : pl.length ≤ 2097152) (hLl : L.length ≤ 2097152) (hLL : ∀ s ∈ L, s.xs.length ≤ 2097152) (hR : Row w ra R.length rc 1 (R.map SV.enc)) (hRr : RowsI w R) (hRl : R.length ≤ 2097152) (hRx : ∀ s ∈ R, s.xs.length ≤ 2097152) : Ret Try.prog 27 [.agg ⟨[.slice na nd.length nc, .slice pa pl.length pc, .slice ca L.length cc]⟩, .slice ra R.length rc] w (fun v w' => v = vint (planP (po nd pl L) (R.map (·.xs))) ∧ Ext w w') := by
 have hB := Below.refl w.heap.size w
 have hsz : w.heap.size ≤ w.heap.size := Nat.le_refl _
 refine ret_of_runs (args := [_, _]) Try.func27 rfl (Nat.le_of_ble_eq_true rfl) (by kernel_rfl) (r_seq (r_region' (l_o (o_box rfl rfl rfl ?_))))
 intro b1 w1 hzl1 hzr1 _ hb1 hE1
 have hbs_b1 : w.heap.size ≤ b1 := Nat.le_trans hsz hzl1
 replace hB := below_ext hB hE1 hsz
 replace hsz := Nat.le_trans hsz hE1.size
 refine l_q (qai rfl rfl) (l_nil (r_seq (r_seq (r_region' (l_q (q_load_agg (n := 3) Try.isAgg29 Try.sizeOf29 rfl ((hb1.cells' (cs' := [_, _, _]) 0 3 rfl)) rfl rfl) (l_o (o_call Try.call13 rfl (checkPost_ret na nc nd pa pc pl ca cc L _ (hpo.below hB) hnl hpll hLl hLL) rfl ?_)))))))
 rintro _ w2 ⟨rfl, hE2⟩
 replace hB := below_ext hB hE2 hsz
 replace hb1 := hb1.ext hE2
 replace hsz := Nat.le_trans hsz hE2.size
 refine l_q (qai rfl rfl) (l_nil (r_seq (r_region' (l_q (qmi rfl rfl) (l_q (q_neq rfl rfl rfl) (l_nil (r_cond rfl (fun hc3 => ?_) (fun hc3 => ?_))))))))
 ·
  replace hc3 := df (nt hc3)
  have g9 := hc3
  refine r_seq (r_region' (l_q (qmi rfl rfl) (l_q (qai rfl rfl) (l_nil (r_ret_ (vs := [.int _ _]) rfl Try.func27 rfl (.nil _) ⟨rfl, trivial⟩ ?_)))))
  exact ⟨vint_eq (plan_f g9).symm, Ext.of_below hB⟩
 ·
  replace hc3 := dt (nf hc3)
  have g9 := hc3
  refine r_skip (r_seq (r_seq (r_region' (l_q (qms rfl rfl) (l_q (q_len rfl Try.underlying22 rfl rfl) (l_q (q_fieldAddr (o' := 0) rfl fld29_0 rfl) (l_q (q_load Try.isAgg26 rfl ((hb1.has (o := 0) rfl)) rfl) (l_q (q_len rfl Try.underlying26 rfl rfl) (l_q (q_neq rfl rfl rfl) (l_q (qmb rfl rfl) (l_part 17 rfl (fun hc4 => ?_) (fun hc4 => ?_))))))))))))
  ·
   replace hc4 := df (nt hc4)
   have g17 := hc4
   refine l_q (q_skip rfl) (l_q (q_skip rfl) (l_q (q_skip rfl) (l_q (q_skip rfl) (l_q (q_pick_t (v := .bool _) rfl rfl rfl) (l_nil (r_forget [(22, .bool _)] ⟨rfl, trivial⟩ (fun e5 => (r_cond_t rfl (r_seq (r_region' (l_q (qai rfl rfl) (l_nil (r_ret_ (vs := [.int _ _]) rfl Try.func27 rfl (.nil _) ⟨rfl, trivial⟩ ?_)))))))))))))
   exact ⟨vint_eq (plan_2 (by simpa using g9) (fun ⟨h1, h2⟩ => by first | omega | exact absurd (h2.symm.trans g22) (by decide))).symm, Ext.of_below hB⟩
  ·
   replace hc4 := dt (nf hc4)
   have g17 := hc4
   refine l_q (qms rfl rfl) (l_q (q_makeFunc (v := .func _ ⟨[]⟩ ⟨[_]⟩) rfl rfl) (l_o (o_call Try.call41 rfl (all_ints_of sv0 (f := SV.enc) (q := fun s => risB s.xs (pl.length : Int)) Try.call50 (hR.below hB) (fun w' hw s hs => check1_ret na nc nd pa pc pl ca cc L s.a s.c s.xs _ w' (hb1.ext hw) hpll ((hRr.ext ((Ext.of_below hB).trans hw)) s hs) (hRx s hs)) (by omega)) rfl ?_)))
   rintro _ w6 ⟨rfl, hE6⟩
   replace hB := below_ext hB hE6 hsz
   replace hsz := Nat.le_trans hsz hE6.size
   refine l_q (q_not rfl rfl) (l_q (q_pick_f (v := .bool _) rfl rfl rfl) (l_nil (r_forget [(22, .bool _)] ⟨rfl, trivial⟩ (fun e7 => (r_cond rfl (fun hc8 => ?_) (fun hc8 => ?_))))))
   ·
    replace hc8 := nt hc8
    have g22 := hc8
    refine r_seq (r_region' (l_q (qai rfl rfl) (l_nil (r_ret_ (vs := [.int _ _]) rfl Try.func27 rfl (.nil _) ⟨rfl, trivial⟩ ?_))))
    exact ⟨vint_eq (plan_2 (by simpa using g9) (fun ⟨h1, h2⟩ => by first | omega | exact absurd (h2.symm.trans g22) (by decide))).symm, Ext.of_below hB⟩
   ·
    replace hc8 := nf hc8
    have g22 := hc8
    refine r_skip (r_seq (r_region' (l_q (qai rfl rfl) (l_nil (r_ret_ (vs := [.int _ _]) rfl Try.func27 rfl (.nil _) ⟨rfl, trivial⟩ ?_)))))
    exact ⟨vint_eq (plan_0 (by simpa using g9) ⟨by omega, g22⟩).symm, Ext.of_below hB⟩
end Go.Proofs.Ytbikicakdkbcgaa
