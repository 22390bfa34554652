/- Contracts. -/
import Derived.Test.YtkcbgpilfegofaaF20
set_option linter.unusedVariables false
set_option linter.unusedSimpArgs false
namespace Go.Proofs.Ytkcbgpilfegofaa
open Go Go.RowKit Go.Gv Go.Fl

structure PJ (w0 : World) (b7 b9 b11 b12 bx : Nat) (D : List Deferred) (s r : Sg) (e x : Int) (Lp : World → LoopState → Option Code → Prop) (k : Nat) (w : World) : Prop where
  c7 : Blk w b7 [vint e]
  c9 : Blk w b9 [vstr s, vstr r]
  c11 : Blk w b11 [vint x]
  c12 : Blk w b12 [.bool false]
  cx : Blk w bx [vstr s, vstr r]
  lp : Lp w .ready none
  mks : Marks w0.heap.size D w
  b0 : Below w0.heap.size w0 w
  no : ∀ j : Nat, j < k → (j : Int) = x → (stepR (j : Int) s r).2.2 = false
structure PE (w0 : World) (b7 b9 b12 : Nat) (D : List Deferred) (s r : Sg) (e x : Int) (Lp : World → LoopState → Option Code → Prop) (k : Nat) (w : World) : Prop where
  c7 : Blk w b7 [vint (e - cost (k : Int))]
  c9 : Blk w b9 [vstr (s.drop (ofK (k : Int) s).1.length), vstr (r.drop (ofK (k : Int) s).2.length)]
  c12 : Blk w b12 [.bool true]
  lp : Lp w .done (some (.exit 2))
  mks : Marks w0.heap.size D w
  b0 : Below w0.heap.size w0 w
  kx : (k : Int) = x
  st : stepR (k : Int) s r = (s.drop (ofK (k : Int) s).1.length, r.drop (ofK (k : Int) s).2.length, true)
theorem PJ.below {w0 wl : World} {b7 b9 b11 b12 bx : Nat} {D : List Deferred} {s r : Sg} {e x : Int} {Lp : World → LoopState → Option Code → Prop} {k : Nat} {w w' : World} (h : PJ w0 b7 b9 b11 b12 bx D s r e x Lp k w) (hB : Below wl.heap.size w w')
    (h7 : b7 < wl.heap.size) (h9 : b9 < wl.heap.size) (h11 : b11 < wl.heap.size) (h12 : b12 < wl.heap.size) (hx : bx < wl.heap.size) (h0 : w0.heap.size ≤ wl.heap.size) (hmk : Marks w0.heap.size D wl)
    (hL : ∀ w1 w2, Below wl.heap.size w1 w2 → Lp w1 .ready none → Lp w2 .ready none) : PJ w0 b7 b9 b11 b12 bx D s r e x Lp k w' := by
  obtain ⟨c7, c9, c11, c12, cx, lp, mk, b0, no⟩ := h
  exact ⟨c7.keep (hB.block _ h7), c9.keep (hB.block _ h9), c11.keep (hB.block _ h11), c12.keep (hB.block _ h12), cx.keep (hB.block _ hx), hL _ _ hB lp, Marks.below mk hmk hB, b0.trans (hB.mono h0), no⟩
theorem pno_succ {s r : Sg} {x : Int} {k : Nat} (h : ∀ j : Nat, j < k → (j : Int) = x → (stepR (j : Int) s r).2.2 = false) (hk : (k : Int) = x → (stepR (k : Int) s r).2.2 = false) : ∀ j : Nat, j < k + 1 → (j : Int) = x → (stepR (j : Int) s r).2.2 = false := fun j hj => by
  rcases Nat.lt_succ_iff_lt_or_eq.1 hj with h1 | h1
  · exact h j h1
  · subst h1; exact hk
theorem PJ.skip {w0 : World} {b7 b9 b11 b12 bx : Nat} {D : List Deferred} {s r : Sg} {e x : Int} {Lp : World → LoopState → Option Code → Prop} {k : Nat} {w : World} (h : PJ w0 b7 b9 b11 b12 bx D s r e x Lp k w) (hno : (stepR (k : Int) s r).2.2 = false) : PJ w0 b7 b9 b11 b12 bx D s r e x Lp (k + 1) w :=
  ⟨h.c7, h.c9, h.c11, h.c12, h.cx, h.lp, h.mks, h.b0, pno_succ h.no (fun _ => hno)⟩
theorem pno_all {s r : Sg} {x : Int} (h : ∀ j : Nat, j < 6 → (j : Int) = x → (stepR (j : Int) s r).2.2 = false) : (stepR x s r).2.2 = false := by
  by_cases hx : 0 ≤ x ∧ x < 6
  · have := h x.toNat (by omega) (by omega)
    rwa [show ((x.toNat : Nat) : Int) = x by omega] at this
  · have hn : stepTW x s = none := by
      unfold stepTW
      rw [if_neg (by omega), if_neg (by omega), if_neg (by omega), if_neg (by omega), if_neg (by omega), if_neg (by omega)]
    unfold stepR
    rw [hn]
def provB (s r : Sg) (xs : List Int) (er : Int) : Bool := (decide (signsFault s r = 0) && (doS s r 0 xs).2) && decide ((doS s r 0 xs).1 ≤ er)
theorem prov_bad {s r : Sg} {xs : List Int} {er : Int} (h : ¬ signsFault s r = 0) : provB s r xs er = false := by unfold provB; rw [decide_eq_false h]; rfl
theorem prov_no {s r : Sg} {xs : List Int} {er : Int} (h : (doS s r 0 xs).2 = false) : provB s r xs er = false := by unfold provB; rw [h]; simp
theorem prov_end {s0 r0 : Sg} {xs : List Int} {er n : Int} {b : Bool} (h : signsFault s0 r0 = 0) (hd : doS s0 r0 0 xs = (n, b)) : provB s0 r0 xs er = (b && decide (0 ≤ er - n)) := by
  unfold provB
  rw [hd, decide_eq_true h, Bool.true_and]
  congr 1
  rw [decide_eq_decide]; omega
theorem blk1_int {w : World} {b : Nat} {x y : Int} (h : x = y) (hb : Blk w b [vint x]) : Blk w b [vint y] := h ▸ hb


theorem prove_ret (s0 r0 : Sg) (xa : Option Addr) (xc : Nat) (xs : List Int) (er : Int) (w : World) (hs : s0.length ≤ 2097152) (hr : r0.length ≤ 2097152) (hx : Row w xa xs.length xc 1 (xs.map vint)) (hxn : xs.length ≤ 2097152) (her : 0 ≤ er ∧ er ≤ 1048576) : Ret Try.prog 47 [vstr s0, vstr r0, .slice xa xs.length xc, vint er] w (fun v w' => v = .bool (provB s0 r0 xs er) ∧ Ext w w') := by
  have hB := Below.refl w.heap.size w
  have hsz : w.heap.size ≤ w.heap.size := Nat.le_refl _
  refine ret_of_runs (args := [_, _, _, _]) Try.func47 rfl (Nat.le_of_ble_eq_true rfl) (by kernel_rfl) ?_
  refine r_seq ?_
  refine r_region' ?_
  refine l_o (o_box rfl rfl rfl ?_)
  intro b1 w1 hzl1 hzr1 _ hb1 hE1
  have hbs_b1 : w.heap.size ≤ b1 := Nat.le_trans hsz hzl1
  replace hB := below_ext hB hE1 hsz
  replace hsz := Nat.le_trans hsz hE1.size
  refine l_q (q_assign (v := .bool _) rfl rfl) ?_
  refine l_nil ?_
  refine r_forget [(0, .string _), (1, .string _), (2, .slice _ _ _), (7, .pointer _)] ⟨rfl, rfl, rfl, rfl, trivial⟩ (fun e2 => ?_)
  refine r_seq ?_
  refine r_seq ?_
  refine r_region' ?_
  refine l_q (q_move (v := .string _) rfl rfl) ?_
  refine l_q (q_move (v := .string _) rfl rfl) ?_
  have hbl_b1 := hb1.lt
  refine l_o (o_buildSlice (el := 9) (cs := [vstr s0, vstr r0]) Try.underlying22 el9 (by decide) (by kernel_rfl) rfl (by decide) rfl ?_)
  intro b3 w3 hzl3 hzr3 _ hb3 hE3 ho3
  have hne_b1_b3 : b1 ≠ b3 := by have := hb1.lt; omega
  have hbs_b3 : w.heap.size ≤ b3 := Nat.le_trans hsz hzl3
  replace hB := below_ext hB hE3 hsz
  replace hb1 := hb1.ext hE3
  replace hsz := Nat.le_trans hsz hE3.size
  refine l_o (o_call Try.call58 rfl (checkSigns_ret _ _ [s0, r0] _ (Row.of_owns ho3) (by simp) (by simp; exact ⟨hs, hr⟩)) rfl ?_)
  rintro _ w4 ⟨rfl, hE4⟩
  replace hB := below_ext hB hE4 hsz
  replace hb1 := hb1.ext hE4
  replace ho3 := own_ext ho3 hE4
  replace hsz := Nat.le_trans hsz hE4.size
  refine l_q (q_neq rfl rfl rfl) ?_
  refine l_nil ?_
  refine r_forget [(0, .string _), (1, .string _), (2, .slice _ _ _), (7, .pointer _), (19, .bool _)] ⟨rfl, rfl, rfl, rfl, rfl, trivial⟩ (fun e5 => ?_)
  refine r_cond rfl (fun hc6 => ?_) (fun hc6 => ?_)
  · skip
    try simp only [decide_eq_true_eq, decide_eq_false_iff_not, Bool.not_eq_true', Bool.not_eq_false', Bool.not_not, Bool.not_true, Bool.not_false, Bool.not_eq_true, Bool.not_eq_false, Int.not_lt, Int.not_le, Bool.and_eq_true, Bool.or_eq_true, Bool.and_eq_false_iff, Bool.or_eq_false_iff] at hc6
    have hz : ¬ signsFault s0 r0 = 0 := by rw [← chk_two]; exact hc6
    refine r_seq ?_
    refine r_region' ?_
    refine l_q (q_assign (v := .bool _) rfl rfl) ?_
    refine l_nil ?_
    refine r_forget [(8, .bool _)] ⟨rfl, trivial⟩ (fun e7 => ?_)
    refine r_ret_ (vs := [.bool _]) rfl Try.func47 rfl (.nil _) ⟨rfl, trivial⟩ ?_
    exact ⟨vbool_eq (prov_bad hz).symm, Ext.of_below hB⟩
  · skip
    try simp only [decide_eq_true_eq, decide_eq_false_iff_not, Bool.not_eq_true', Bool.not_eq_false', Bool.not_not, Bool.not_true, Bool.not_false, Bool.not_eq_true, Bool.not_eq_false, Int.not_lt, Int.not_le, Bool.and_eq_true, Bool.or_eq_true, Bool.and_eq_false_iff, Bool.or_eq_false_iff] at hc6
    have hz : signsFault s0 r0 = 0 := by rw [← chk_two]; exact hc6
    refine r_skip ?_
    refine r_seq ?_
    refine r_region' ?_
    refine l_q (q_move (v := .string _) rfl rfl) ?_
    refine l_q (q_move (v := .string _) rfl rfl) ?_
    refine l_q (q_build (v := .agg ⟨[vstr s0, vstr r0]⟩) (fun w => by kernel_rfl) rfl) ?_
    refine l_o (o_alloc Try.zeroValue93 rfl rfl ?_)
    intro b8 w8 hzl8 hzr8 _ hb8 hE8
    have hne_b1_b8 : b1 ≠ b8 := by have := hb1.lt; omega
    have hno_ho3_b8 : ∀ g, (Value.slice (some ⟨b3, 0, none⟩) 2 2).ownBlock = some g → g ≠ b8 := fun g hg => by have := (ho3.lt g hg).2; omega
    have hbs_b8 : w.heap.size ≤ b8 := Nat.le_trans hsz hzl8
    replace hB := below_ext hB hE8 hsz
    replace hb1 := hb1.ext hE8
    replace ho3 := own_ext ho3 hE8
    replace hsz := Nat.le_trans hsz hE8.size
    refine l_o (o_store (vs := [vstr s0, vstr r0]) (cs' := [vstr s0, vstr r0]) Try.sizeOf93 rfl rfl rfl rfl hb8 (Nat.le_of_ble_eq_true rfl) rfl rfl ?_)
    intro w9 hz9 hb8 hG9
    replace hB := below_upd hB hG9 hsz (by omega)
    replace hsz : w.heap.size ≤ w9.heap.size := by rw [hz9]; exact hsz
    replace hb1 := hb1.upd hG9 (by omega)
    replace ho3 := own_updne ho3 hG9 (by first | assumption | (intro g hg; have := (ho3.lt g hg).1; omega))
    refine l_nil ?_
    refine r_forget [(2, .slice _ _ _), (7, .pointer _), (9, .pointer _)] ⟨rfl, rfl, rfl, trivial⟩ (fun e10 => ?_)
    refine r_seq ?_
    refine r_seq ?_
    refine r_region' ?_
    refine l_q (q_move (v := .slice _ _ _) rfl rfl) ?_
    refine l_q (q_len rfl Try.underlying25 rfl rfl) ?_
    refine l_q (q_move (v := .int _ _) rfl rfl) ?_
    refine l_nil ?_
    refine r_forget [(7, .pointer _), (9, .pointer _), (23, .slice _ _ _), (24, .int _ _), (25, .int _ _)] ⟨rfl, rfl, rfl, rfl, rfl, trivial⟩ (fun e11 => ?_)
    refine r_block ?_
    have hmk := Marks.nil w.heap.size w9
    refine r_roundsD (α := Nat × Sg × Sg × Int) (fun ⟨i, s, r, n⟩ e D wl => Knows e [(7, ptr b1 0), (9, ptr b8 0), (23, .slice xa xs.length xc), (24, vint (xs.length : Int)), (25, vint (i : Int))] ∧ (i ≤ xs.length) ∧ (s.length ≤ 40 ∧ r.length ≤ 40) ∧ (∀ x ∈ r, x ≠ 33) ∧ (0 ≤ n ∧ n ≤ i) ∧ (doS s0 r0 0 xs = doS s r n (xs.drop i)) ∧ (Blk wl b1 [vint (er - n)]) ∧ (Blk wl b8 [vstr s, vstr r]) ∧ (Marks w.heap.size D wl) ∧ (w.heap.size ≤ wl.heap.size) ∧ (Below w.heap.size w wl)) (fun ⟨i, s, r, n⟩ => xs.length - i) (0, s0, r0, 0) ?_ ?_
    · skip
      exact ⟨⟨rfl, rfl, rfl, rfl, rfl, trivial⟩, (by omega), ⟨(sf_zero hz).2.2.1, (sf_zero hz).2.2.2.1⟩, (sf_zero hz).2.1, (by omega), rfl, (blk1_int (by omega) hb1), hb8, hmk, hsz, hB⟩
    · skip
      rintro ⟨i, s, r, n⟩ el12 D wl12 ⟨hkn, hi, hsl, h33, hn, hd, hc7, hc9, hmk, hsz, hB⟩ ih12
      obtain ⟨e12, rfl⟩ := knows_env hkn
      refine r_seq ?_
      refine r_region' ?_
      refine l_q (q_lss rfl rfl rfl) ?_
      refine l_nil ?_
      refine r_seq ?_
      refine r_cond rfl (fun hc13 => ?_) (fun hc13 => ?_)
      · skip
        try simp only [decide_eq_true_eq, decide_eq_false_iff_not, Bool.not_eq_true', Bool.not_eq_false', Bool.not_not, Bool.not_true, Bool.not_false, Bool.not_eq_true, Bool.not_eq_false, Int.not_lt, Int.not_le, Bool.and_eq_true, Bool.or_eq_true, Bool.and_eq_false_iff, Bool.or_eq_false_iff] at hc13
        have hil : i < xs.length := Int.ofNat_lt.1 hc13
        refine r_skip ?_
        refine r_seq ?_
        refine r_block ?_
        refine r_seq ?_
        refine r_region' ?_
        obtain ⟨b14, o14, ha14, hh14⟩ := (hx.below hB).at1 i ((xs).getD i 0) (getD_some (by omega))
        refine l_q (q_indexAddr1 Try.underlying25 Try.sizeOf3 rfl ha14 rfl (by omega) rfl) ?_
        refine l_q (q_load Try.isAgg3 rfl (hh14) rfl) ?_
        refine l_o (o_alloc Try.zeroValue3 rfl rfl ?_)
        intro b15 w15 hzl15 hzr15 _ hb15 hE15
        have hne_b1_b15 : b1 ≠ b15 := by have := hc7.lt; omega
        have hne_b8_b15 : b8 ≠ b15 := by have := hc9.lt; omega
        have hbs_b15 : w.heap.size ≤ b15 := Nat.le_trans hsz hzl15
        replace hB := below_ext hB hE15 hsz
        replace hmk := hmk.ext hE15
        replace hc7 := hc7.ext hE15
        replace hc9 := hc9.ext hE15
        replace hsz := Nat.le_trans hsz hE15.size
        refine l_o (o_store (vs := [vint ((xs).getD i 0)]) (cs' := [vint ((xs).getD i 0)]) Try.sizeOf3 rfl rfl rfl rfl hb15 (Nat.le_of_ble_eq_true rfl) rfl rfl ?_)
        intro w16 hz16 hb15 hG16
        replace hB := below_upd hB hG16 hsz (by omega)
        replace hsz : w.heap.size ≤ w16.heap.size := by rw [hz16]; exact hsz
        replace hmk := (by first | exact hmk.upd hG16 (by assumption) | exact hmk.updM hG16 (by assumption) | exact hmk.updL hG16 ((hLp _ _ _).1 (by assumption)))
        replace hc7 := hc7.upd hG16 (by omega)
        replace hc9 := hc9.upd hG16 (by omega)
        refine l_nil ?_
        refine r_forget [(7, .pointer _), (9, .pointer _), (11, .pointer _), (23, .slice _ _ _), (24, .int _ _), (25, .int _ _)] ⟨rfl, rfl, rfl, rfl, rfl, rfl, trivial⟩ (fun e17 => ?_)
        refine r_seq ?_
        refine r_region' ?_
        refine l_o (o_alloc Try.zeroValue4 rfl rfl ?_)
        intro b18 w18 hzl18 hzr18 _ hb18 hE18
        have hne_b1_b18 : b1 ≠ b18 := by have := hc7.lt; omega
        have hne_b8_b18 : b8 ≠ b18 := by have := hc9.lt; omega
        have hne_b15_b18 : b15 ≠ b18 := by have := hb15.lt; omega
        have hbs_b18 : w.heap.size ≤ b18 := Nat.le_trans hsz hzl18
        replace hB := below_ext hB hE18 hsz
        replace hmk := hmk.ext hE18
        replace hc7 := hc7.ext hE18
        replace hc9 := hc9.ext hE18
        replace hb15 := hb15.ext hE18
        replace hsz := Nat.le_trans hsz hE18.size
        refine l_o (o_store (vs := [.bool false]) (cs' := [.bool false]) Try.sizeOf4 rfl rfl rfl rfl hb18 (Nat.le_of_ble_eq_true rfl) rfl rfl ?_)
        intro w19 hz19 hb18 hG19
        replace hB := below_upd hB hG19 hsz (by omega)
        replace hsz : w.heap.size ≤ w19.heap.size := by rw [hz19]; exact hsz
        replace hmk := (by first | exact hmk.upd hG19 (by assumption) | exact hmk.updM hG19 (by assumption) | exact hmk.updL hG19 ((hLp _ _ _).1 (by assumption)))
        replace hc7 := hc7.upd hG19 (by omega)
        replace hc9 := hc9.upd hG19 (by omega)
        replace hb15 := hb15.upd hG19 (by omega)
        refine l_nil ?_
        refine r_seq ?_
        refine r_seq ?_
        refine r_region' ?_
        refine l_q (q_load_agg (n := 2) Try.isAgg93 Try.sizeOf93 rfl ((hc9.cells' (cs' := [_, _]) 0 2 rfl)) rfl rfl) ?_
        refine l_o (o_call Try.call60 rfl (next_ret _ _ _) rfl ?_)
        rintro _ w20 ⟨bx20, rfl, hbx20, hx20, hE20⟩
        have hne_b1_bx20 : b1 ≠ bx20 := by have := hc7.lt; omega
        have hne_b8_bx20 : b8 ≠ bx20 := by have := hc9.lt; omega
        have hne_b15_bx20 : b15 ≠ bx20 := by have := hb15.lt; omega
        have hne_b18_bx20 : b18 ≠ bx20 := by have := hb18.lt; omega
        have hbs_bx20 : w.heap.size ≤ bx20 := Nat.le_trans hsz hbx20
        replace hB := below_ext hB hE20 hsz
        replace hmk := hmk.ext hE20
        replace hc7 := hc7.ext hE20
        replace hc9 := hc9.ext hE20
        replace hb15 := hb15.ext hE20
        replace hb18 := hb18.ext hE20
        replace hsz := Nat.le_trans hsz hE20.size
        refine l_nil ?_
        refine r_forget [(7, .pointer _), (9, .pointer _), (11, .pointer _), (12, .pointer _), (23, .slice _ _ _), (24, .int _ _), (25, .int _ _), (30, .func _ _ _)] ⟨rfl, rfl, rfl, rfl, rfl, rfl, rfl, rfl, trivial⟩ (fun e21 => ?_)
        refine r_block ?_
        refine r_rangeFunc' (fst := []) (cap := [_]) rfl rfl Try.call86 ?_
        intro l db wl Lp hLp hLk hEl hll hldb hlne hdbN hlN hdb hlp
        have hlt_b1 := hc7.lt
        have hlt_b8 := hc9.lt
        have hlt_b15 := hb15.lt
        have hlt_b18 := hb18.lt
        have hlt_bx20 := hx20.lt
        have hszl := hEl.size
        have hnd := hmk.lt hldb
        replace hB := below_ext hB hEl hsz
        replace hmk := hmk.ext hEl
        replace hc7 := hc7.ext hEl
        replace hc9 := hc9.ext hEl
        replace hb15 := hb15.ext hEl
        replace hb18 := hb18.ext hEl
        replace hx20 := hx20.ext hEl
        replace hsz := Nat.le_trans hsz hEl.size
        have hbs_l : w.heap.size ≤ l := by omega
        have hbs_db : w.heap.size ≤ db := by omega
        replace hmk := hmk.cons hdb hbs_db hnd
        have hLJ : ∀ w1 w2, Below wl.heap.size w1 w2 → Lp w1 .ready none → Lp w2 .ready none := fun w1 w2 hB h => hLk _ _ _ _ h (hB.block l hlN)
        have hJ0 : PJ w b1 b8 b15 b18 bx20 (marked db :: D) s r (er - n) (xs.getD i 0) Lp 0 wl := ⟨hc7, hc9, hb15, hb18, hx20, hlp, hmk, hB, fun j hj => absurd hj (Nat.not_lt_zero _)⟩
        have hmkl := hmk
        refine (next1_ret l bx20 s r (PJ w b1 b8 b15 b18 bx20 (marked db :: D) s r (er - n) (xs.getD i 0) Lp) (fun wq => ∃ k, PE w b1 b8 b18 (marked db :: D) s r (er - n) (xs.getD i 0) Lp k wq) wl (by omega) (by omega) h33 (by omega) hJ0 (fun k w1 hJ => hJ.cx) (fun k w1 w2 hJ hB => hJ.below hB (by omega) (by omega) (by omega) (by omega) (by omega) (by omega) hmkl hLJ) (fun k w1 hk hJ hno => hJ.skip hno) ?_).mono ?_
        · intro k w1 hk hJ hN hstep
          refine yieldAt_of ((hLp _ _ _).1 hJ.lp) rfl (by rfl) (by kernel_rfl) ?_
          obtain ⟨hc7, hc9, hc11, hc12, hcx, hlp, hmk, hB, hno⟩ := hJ
          have hF := Fr.refl wl.heap.size w1
          have hsz : w.heap.size ≤ w1.heap.size := by omega
          refine r_forget [(7, ptr b1 0), (9, ptr b8 0), (11, ptr b15 0), (12, ptr b18 0), (31, .agg ⟨[vint (k : Int), vint (cost (k : Int)), .func (.func (108 + k)) ⟨[]⟩ ⟨[]⟩]⟩), (32, .agg ⟨[vstr (s.drop (ofK (k : Int) s).1.length), vstr (r.drop (ofK (k : Int) s).2.length)]⟩)] ⟨rfl, rfl, rfl, rfl, rfl, rfl, trivial⟩ (fun e22 => ?_)
          refine r_seq ?_
          refine r_region' ?_
          refine l_o (o_alloc Try.zeroValue99 rfl rfl ?_)
          intro b23 w23 hzl23 hzr23 _ hb23 hE23
          have hne_b1_b23 : b1 ≠ b23 := by have := hc7.lt; omega
          have hne_b8_b23 : b8 ≠ b23 := by have := hc9.lt; omega
          have hne_b15_b23 : b15 ≠ b23 := by have := hc11.lt; omega
          have hne_b18_b23 : b18 ≠ b23 := by have := hc12.lt; omega
          have hne_bx20_b23 : bx20 ≠ b23 := by have := hcx.lt; omega
          have hbs_b23 : w.heap.size ≤ b23 := Nat.le_trans hsz hzl23
          replace hB := below_ext hB hE23 hsz
          replace hc7 := hc7.ext hE23
          replace hc9 := hc9.ext hE23
          replace hc11 := hc11.ext hE23
          replace hc12 := hc12.ext hE23
          replace hcx := hcx.ext hE23
          replace hlp := hLk _ _ _ _ hlp (hE23.block l (((hLp _ _ _).1 hlp).lt) (by simp))
          replace hmk := hmk.ext hE23
          replace hF := hF.trans (Fr.of_ext hE23)
          replace hsz := Nat.le_trans hsz hE23.size
          refine l_o (o_store (vs := [vint (k : Int), vint (cost (k : Int)), .func (.func (108 + k)) ⟨[]⟩ ⟨[]⟩]) (cs' := [vint (k : Int), vint (cost (k : Int)), .func (.func (108 + k)) ⟨[]⟩ ⟨[]⟩]) Try.sizeOf99 rfl rfl rfl rfl hb23 (Nat.le_of_ble_eq_true rfl) rfl rfl ?_)
          intro w24 hz24 hb23 hG24
          replace hB := below_upd hB hG24 hsz (by omega)
          replace hsz : w.heap.size ≤ w24.heap.size := by rw [hz24]; exact hsz
          replace hc7 := hc7.upd hG24 (by omega)
          replace hc9 := hc9.upd hG24 (by omega)
          replace hc11 := hc11.upd hG24 (by omega)
          replace hc12 := hc12.upd hG24 (by omega)
          replace hcx := hcx.upd hG24 (by omega)
          replace hlp := hLk _ _ _ _ hlp (hG24.block l (((hLp _ _ _).1 hlp).lt) (by simp; omega))
          replace hmk := (by first | exact hmk.upd hG24 (by assumption) | exact hmk.updM hG24 (by assumption) | exact hmk.updL hG24 ((hLp _ _ _).1 (by assumption)))
          replace hF := Fr.step hF hG24 (by omega)
          refine l_nil ?_
          refine r_forget [(7, .pointer _), (9, .pointer _), (11, .pointer _), (12, .pointer _), (13, .pointer _), (32, .agg _)] ⟨rfl, rfl, rfl, rfl, rfl, rfl, trivial⟩ (fun e25 => ?_)
          refine r_region' ?_
          refine l_o (o_alloc Try.zeroValue93 rfl rfl ?_)
          intro b26 w26 hzl26 hzr26 _ hb26 hE26
          have hne_b1_b26 : b1 ≠ b26 := by have := hc7.lt; omega
          have hne_b8_b26 : b8 ≠ b26 := by have := hc9.lt; omega
          have hne_b15_b26 : b15 ≠ b26 := by have := hc11.lt; omega
          have hne_b18_b26 : b18 ≠ b26 := by have := hc12.lt; omega
          have hne_bx20_b26 : bx20 ≠ b26 := by have := hcx.lt; omega
          have hne_b23_b26 : b23 ≠ b26 := by have := hb23.lt; omega
          have hbs_b26 : w.heap.size ≤ b26 := Nat.le_trans hsz hzl26
          replace hB := below_ext hB hE26 hsz
          replace hc7 := hc7.ext hE26
          replace hc9 := hc9.ext hE26
          replace hc11 := hc11.ext hE26
          replace hc12 := hc12.ext hE26
          replace hcx := hcx.ext hE26
          replace hlp := hLk _ _ _ _ hlp (hE26.block l (((hLp _ _ _).1 hlp).lt) (by simp))
          replace hmk := hmk.ext hE26
          replace hF := hF.trans (Fr.of_ext hE26)
          replace hb23 := hb23.ext hE26
          replace hsz := Nat.le_trans hsz hE26.size
          refine l_o (o_store (vs := [vstr (s.drop (ofK (k : Int) s).1.length), vstr (r.drop (ofK (k : Int) s).2.length)]) (cs' := [vstr (s.drop (ofK (k : Int) s).1.length), vstr (r.drop (ofK (k : Int) s).2.length)]) Try.sizeOf93 rfl rfl rfl rfl hb26 (Nat.le_of_ble_eq_true rfl) rfl rfl ?_)
          intro w27 hz27 hb26 hG27
          replace hB := below_upd hB hG27 hsz (by omega)
          replace hsz : w.heap.size ≤ w27.heap.size := by rw [hz27]; exact hsz
          replace hc7 := hc7.upd hG27 (by omega)
          replace hc9 := hc9.upd hG27 (by omega)
          replace hc11 := hc11.upd hG27 (by omega)
          replace hc12 := hc12.upd hG27 (by omega)
          replace hcx := hcx.upd hG27 (by omega)
          replace hlp := hLk _ _ _ _ hlp (hG27.block l (((hLp _ _ _).1 hlp).lt) (by simp; omega))
          replace hmk := (by first | exact hmk.upd hG27 (by assumption) | exact hmk.updM hG27 (by assumption) | exact hmk.updL hG27 ((hLp _ _ _).1 (by assumption)))
          replace hF := Fr.step hF hG27 (by omega)
          replace hb23 := hb23.upd hG27 (by omega)
          refine l_nil ?_
          refine r_forget [(7, .pointer _), (9, .pointer _), (11, .pointer _), (12, .pointer _), (13, .pointer _), (14, .pointer _)] ⟨rfl, rfl, rfl, rfl, rfl, rfl, trivial⟩ (fun e28 => ?_)
          refine r_begin rfl ((hLp _ _ _).1 hlp) ?_
          intro wb29 hzb29 hgb29 hl29
          replace hB := below_upd hB hgb29 hsz hbs_l
          replace hsz : w.heap.size ≤ wb29.heap.size := by rw [hzb29]; exact hsz
          replace hc7 := hc7.upd hgb29 (by omega)
          replace hc9 := hc9.upd hgb29 (by omega)
          replace hc11 := hc11.upd hgb29 (by omega)
          replace hc12 := hc12.upd hgb29 (by omega)
          replace hcx := hcx.upd hgb29 (by omega)
          replace hmk := (by first | exact hmk.upd hgb29 (by assumption) | exact hmk.updM hgb29 (by assumption) | exact hmk.updL hgb29 ((hLp _ _ _).1 (by assumption)))
          replace hF := Fr.step hF hgb29 (by omega)
          replace hb23 := hb23.upd hgb29 (by omega)
          replace hb26 := hb26.upd hgb29 (by omega)
          have hlp := (hLp _ _ _).2 hl29
          refine r_block ?_
          refine r_seq ?_
          refine r_region' ?_
          refine l_q (q_fieldAddr (o' := 0) rfl fld99_0 rfl) ?_
          refine l_q (q_load Try.isAgg3 rfl ((hb23.has (o := 0) rfl)) rfl) ?_
          refine l_q (q_load Try.isAgg3 rfl ((hc11.has (o := 0) rfl)) rfl) ?_
          refine l_q (q_eql rfl rfl rfl) ?_
          refine l_nil ?_
          refine r_forget [(7, .pointer _), (9, .pointer _), (12, .pointer _), (13, .pointer _), (14, .pointer _), (36, .bool _)] ⟨rfl, rfl, rfl, rfl, rfl, rfl, trivial⟩ (fun e30 => ?_)
          refine r_cond rfl (fun hc31 => ?_) (fun hc31 => ?_)
          · skip
            try simp only [decide_eq_true_eq, decide_eq_false_iff_not, Bool.not_eq_true', Bool.not_eq_false', Bool.not_not, Bool.not_true, Bool.not_false, Bool.not_eq_true, Bool.not_eq_false, Int.not_lt, Int.not_le, Bool.and_eq_true, Bool.or_eq_true, Bool.and_eq_false_iff, Bool.or_eq_false_iff] at hc31
            have hkx := hc31
            have hcl := cost_le (k : Int)
            refine r_seq ?_
            refine r_draw (gm_refl b8) (gm_trans b8) [0, 1, 2, 3, 4, 5, 6, 7] [5, 6, 7, 1006, 1007] 4 (by kernel_rfl) (by kernel_rfl) ?_
            intro w32 _ hE32
            replace hB := below_ext hB hE32 hsz
            replace hc7 := hc7.ext hE32
            replace hc9 := hc9.ext hE32
            replace hc11 := hc11.ext hE32
            replace hc12 := hc12.ext hE32
            replace hcx := hcx.ext hE32
            replace hmk := hmk.ext hE32
            replace hF := hF.trans (Fr.of_ext hE32)
            replace hb23 := hb23.ext hE32
            replace hb26 := hb26.ext hE32
            replace hlp := hLk _ _ _ _ hlp (hE32.block l (((hLp _ _ _).1 hlp).lt) (by simp))
            replace hsz := Nat.le_trans hsz hE32.size
            refine m_q rfl rfl (fun w' hC' => q_load_agg (n := 2) Try.isAgg93 Try.sizeOf93 rfl (((hb26.step hC' (by simp; omega)).cells' (cs' := [_, _]) 0 2 rfl)) rfl rfl) ?_
            refine m_q rfl rfl (fun w' hC' => q_load Try.isAgg3 rfl (((hc7.step hC' (by simp; omega)).has (o := 0) rfl)) rfl) ?_
            refine m_q rfl rfl (fun w' hC' => q_fieldAddr (o' := 1) rfl fld99_1 rfl) ?_
            refine m_q rfl rfl (fun w' hC' => q_load Try.isAgg3 rfl (((hb23.step hC' (by simp; omega)).has (o := 1) rfl)) rfl) ?_
            refine m_q rfl rfl (fun w' hC' => q_sub rfl rfl (by omega) rfl) ?_
            refine m_o rfl rfl (o_store (vs := [vstr (s.drop (ofK (k : Int) s).1.length), vstr (r.drop (ofK (k : Int) s).2.length)]) (cs' := [vstr (s.drop (ofK (k : Int) s).1.length), vstr (r.drop (ofK (k : Int) s).2.length)]) Try.sizeOf93 rfl rfl rfl rfl hc9 (Nat.le_of_ble_eq_true rfl) rfl rfl ?_)
            intro w33 hz33 hc9 hG33
            refine ⟨hG33, ?_⟩
            replace hB := below_upd hB hG33 hsz (by omega)
            replace hsz : w.heap.size ≤ w33.heap.size := by rw [hz33]; exact hsz
            replace hc7 := hc7.upd hG33 (by omega)
            replace hc11 := hc11.upd hG33 (by omega)
            replace hc12 := hc12.upd hG33 (by omega)
            replace hcx := hcx.upd hG33 (by omega)
            replace hmk := (by first | exact hmk.upd hG33 (by assumption) | exact hmk.updM hG33 (by assumption) | exact hmk.updL hG33 ((hLp _ _ _).1 (by assumption)))
            replace hF := Fr.step hF hG33 (by omega)
            replace hb23 := hb23.upd hG33 (by omega)
            replace hb26 := hb26.upd hG33 (by omega)
            replace hlp := hLk _ _ _ _ hlp (hG33.block l (((hLp _ _ _).1 hlp).lt) (by simp; omega))
            refine m_last rfl rfl rfl (o_store (vs := [vint ((er - n) - (cost (k : Int)))]) (cs' := [vint ((er - n) - (cost (k : Int)))]) Try.sizeOf3 rfl rfl rfl rfl hc7 (Nat.le_of_ble_eq_true rfl) rfl rfl ?_)
            intro w34 hz34 hc7 hG34
            replace hB := below_upd hB hG34 hsz (by omega)
            replace hsz : w.heap.size ≤ w34.heap.size := by rw [hz34]; exact hsz
            replace hc9 := hc9.upd hG34 (by omega)
            replace hc11 := hc11.upd hG34 (by omega)
            replace hc12 := hc12.upd hG34 (by omega)
            replace hcx := hcx.upd hG34 (by omega)
            replace hmk := (by first | exact hmk.upd hG34 (by assumption) | exact hmk.updM hG34 (by assumption) | exact hmk.updL hG34 ((hLp _ _ _).1 (by assumption)))
            replace hF := Fr.step hF hG34 (by omega)
            replace hb23 := hb23.upd hG34 (by omega)
            replace hb26 := hb26.upd hG34 (by omega)
            replace hlp := hLk _ _ _ _ hlp (hG34.block l (((hLp _ _ _).1 hlp).lt) (by simp; omega))
            refine m_last rfl rfl rfl (o_store (vs := [.bool true]) (cs' := [.bool true]) Try.sizeOf4 rfl rfl rfl rfl hc12 (Nat.le_of_ble_eq_true rfl) rfl rfl ?_)
            intro w35 hz35 hc12 hG35
            replace hB := below_upd hB hG35 hsz (by omega)
            replace hsz : w.heap.size ≤ w35.heap.size := by rw [hz35]; exact hsz
            replace hc7 := hc7.upd hG35 (by omega)
            replace hc9 := hc9.upd hG35 (by omega)
            replace hc11 := hc11.upd hG35 (by omega)
            replace hcx := hcx.upd hG35 (by omega)
            replace hmk := (by first | exact hmk.upd hG35 (by assumption) | exact hmk.updM hG35 (by assumption) | exact hmk.updL hG35 ((hLp _ _ _).1 (by assumption)))
            replace hF := Fr.step hF hG35 (by omega)
            replace hb23 := hb23.upd hG35 (by omega)
            replace hb26 := hb26.upd hG35 (by omega)
            replace hlp := hLk _ _ _ _ hlp (hG35.block l (((hLp _ _ _).1 hlp).lt) (by simp; omega))
            refine m_nil ?_
            refine r_forget [] trivial (fun e36 => ?_)
            refine r_round_exit (id := 2) rfl rfl ((hLp _ _ _).1 hlp) ?_
            intro we37 hze37 hge37 hl37
            replace hB := below_upd hB hge37 hsz hbs_l
            replace hc7 := hc7.upd hge37 (by omega)
            replace hc9 := hc9.upd hge37 (by omega)
            replace hc11 := hc11.upd hge37 (by omega)
            replace hc12 := hc12.upd hge37 (by omega)
            replace hcx := hcx.upd hge37 (by omega)
            replace hmk := (by first | exact hmk.upd hge37 (by assumption) | exact hmk.updM hge37 (by assumption) | exact hmk.updL hge37 ((hLp _ _ _).1 (by assumption)))
            replace hF := Fr.step hF hge37 (by omega)
            replace hb23 := hb23.upd hge37 (by omega)
            replace hb26 := hb26.upd hge37 (by omega)
            have hlp := (hLp _ _ _).2 hl37
            exact ⟨false, rfl, (fun h => by cases h), fun _ => ⟨k, hc7, hc9, hc12, hlp, hmk, hB, hkx, hstep⟩, hF, hcx⟩
          · skip
            try simp only [decide_eq_true_eq, decide_eq_false_iff_not, Bool.not_eq_true', Bool.not_eq_false', Bool.not_not, Bool.not_true, Bool.not_false, Bool.not_eq_true, Bool.not_eq_false, Int.not_lt, Int.not_le, Bool.and_eq_true, Bool.or_eq_true, Bool.and_eq_false_iff, Bool.or_eq_false_iff] at hc31
            have hkx := hc31
            refine r_skip ?_
            refine r_inBlock ?_
            refine r_round_end rfl ((hLp _ _ _).1 hlp) ?_
            intro we38 hze38 hge38 hl38
            replace hB := below_upd hB hge38 hsz hbs_l
            replace hc7 := hc7.upd hge38 (by omega)
            replace hc9 := hc9.upd hge38 (by omega)
            replace hc11 := hc11.upd hge38 (by omega)
            replace hc12 := hc12.upd hge38 (by omega)
            replace hcx := hcx.upd hge38 (by omega)
            replace hmk := (by first | exact hmk.upd hge38 (by assumption) | exact hmk.updM hge38 (by assumption) | exact hmk.updL hge38 ((hLp _ _ _).1 (by assumption)))
            replace hF := Fr.step hF hge38 (by omega)
            replace hb23 := hb23.upd hge38 (by omega)
            replace hb26 := hb26.upd hge38 (by omega)
            have hlp := (hLp _ _ _).2 hl38
            exact ⟨true, rfl, fun _ => ⟨hc7, hc9, hc11, hc12, hcx, hlp, hmk, hB, pno_succ hno (fun h => absurd h hkx)⟩, (fun h => by cases h), hF, hcx⟩
        · rintro _ w2 (hJ | ⟨k, hJ⟩)
          · skip
            obtain ⟨hc7, hc9, hc11, hc12, hcx, hlp, hmk, hB, hno⟩ := hJ
            have hst := pno_all hno
            refine ⟨.ready, none, (by decide), hlp, rfl, ?_⟩
            intro w3 hz3 hg3
            have hsz2 : w.heap.size ≤ w2.heap.size := hB.size
            replace hB := below_upd hB hg3 hsz2 hbs_l
            have hsz : w.heap.size ≤ w3.heap.size := by rw [hz3]; exact hsz2
            replace hc7 := hc7.upd hg3 (by omega)
            replace hc9 := hc9.upd hg3 (by omega)
            replace hc12 := hc12.upd hg3 (by omega)
            replace hmk := (by first | exact hmk.upd hg3 (by assumption) | exact hmk.updM hg3 (by assumption) | exact hmk.updL hg3 ((hLp _ _ _).1 (by assumption)))
            refine r_inBlock ?_
            refine r_seq ?_
            refine r_region' ?_
            refine l_q (q_load Try.isAgg4 rfl ((hc12.has (o := 0) rfl)) rfl) ?_
            refine l_q (q_not rfl rfl) ?_
            refine l_nil ?_
            refine r_forget [(7, .pointer _), (9, .pointer _), (23, .slice _ _ _), (24, .int _ _), (25, .int _ _), (43, .bool _)] ⟨rfl, rfl, rfl, rfl, rfl, rfl, trivial⟩ (fun e39 => ?_)
            refine r_cond_t rfl ?_
            refine r_seq ?_
            refine r_region' ?_
            refine l_q (q_assign (v := .bool _) rfl rfl) ?_
            refine l_nil ?_
            refine r_forget [(8, .bool _)] ⟨rfl, trivial⟩ (fun e40 => ?_)
            obtain ⟨wf41, hUf, hzf41, hFf41⟩ := unw_many hmk
            replace hB := below_unw hB hsz hFf41
            replace hsz : w.heap.size ≤ wf41.heap.size := by rw [hzf41]; exact hsz
            replace hc7 := hc7.unw hFf41
            replace hc9 := hc9.unw hFf41
            replace hc12 := hc12.unw hFf41
            refine r_ret_ (vs := [.bool _]) rfl Try.func47 rfl (hUf) ⟨rfl, trivial⟩ ?_
            exact ⟨vbool_eq (prov_no (by rw [hd, doS_no hil hst])).symm, Ext.of_below hB⟩
          · skip
            obtain ⟨hc7, hc9, hc12, hlp, hmk, hB, hkx, hstep⟩ := hJ
            have hdec := ofK_dec hstep
            have hstx := hstep
            rw [hkx] at hstx
            have hcl := cost_le (k : Int)
            refine ⟨.done, some (.exit 2), (by decide), hlp, rfl, ?_⟩
            intro w3 hz3 hg3
            have hsz2 : w.heap.size ≤ w2.heap.size := hB.size
            replace hB := below_upd hB hg3 hsz2 hbs_l
            have hsz : w.heap.size ≤ w3.heap.size := by rw [hz3]; exact hsz2
            replace hc7 := hc7.upd hg3 (by omega)
            replace hc9 := hc9.upd hg3 (by omega)
            replace hc12 := hc12.upd hg3 (by omega)
            replace hmk := (by first | exact hmk.upd hg3 (by assumption) | exact hmk.updM hg3 (by assumption) | exact hmk.updL hg3 ((hLp _ _ _).1 (by assumption)))
            refine r_exit rfl ?_
            refine r_seq ?_
            refine r_region' ?_
            refine l_q (q_load Try.isAgg4 rfl ((hc12.has (o := 0) rfl)) rfl) ?_
            refine l_q (q_not rfl rfl) ?_
            refine l_nil ?_
            refine r_forget [(7, .pointer _), (9, .pointer _), (23, .slice _ _ _), (24, .int _ _), (25, .int _ _), (43, .bool _)] ⟨rfl, rfl, rfl, rfl, rfl, rfl, trivial⟩ (fun e42 => ?_)
            refine r_cond_f rfl ?_
            refine r_skip ?_
            refine r_inBlock ?_
            refine r_region' ?_
            refine l_q (q_add rfl rfl (by omega) rfl) ?_
            refine l_q (q_move (v := .int _ _) rfl rfl) ?_
            refine l_nil ?_
            refine r_forget [(7, .pointer _), (9, .pointer _), (23, .slice _ _ _), (24, .int _ _), (25, .int _ _)] ⟨rfl, rfl, rfl, rfl, rfl, trivial⟩ (fun e43 => ?_)
            exact ih12 (i + 1, s.drop (ofK (k : Int) s).1.length, r.drop (ofK (k : Int) s).2.length, n + cost (k : Int)) _ _ _ ⟨⟨rfl, rfl, rfl, rfl, (vint_eq (by omega)), trivial⟩, (by omega), (by rw [List.length_drop, List.length_drop]; omega), (fun x hx => h33 x (List.mem_of_mem_drop hx)), (by omega), (by rw [hd, doS_step hil (by rw [hstx]), hstx, hkx]), (blk1_int (by omega) hc7), hc9, hmk, hsz, hB⟩ (by first | omega | (dsimp only; omega))
      · skip
        try simp only [decide_eq_true_eq, decide_eq_false_iff_not, Bool.not_eq_true', Bool.not_eq_false', Bool.not_not, Bool.not_true, Bool.not_false, Bool.not_eq_true, Bool.not_eq_false, Int.not_lt, Int.not_le, Bool.and_eq_true, Bool.or_eq_true, Bool.and_eq_false_iff, Bool.or_eq_false_iff] at hc13
        have hil : xs.length ≤ i := Int.ofNat_le.1 hc13
        refine r_exit rfl ?_
        refine r_seq ?_
        refine r_region' ?_
        refine l_q (q_load_agg (n := 2) Try.isAgg93 Try.sizeOf93 rfl ((hc9.cells' (cs' := [_, _]) 0 2 rfl)) rfl rfl) ?_
        refine l_q (q_build (v := .agg ⟨[vstr [], vstr []]⟩) (fun w => by kernel_rfl) rfl) ?_
        refine l_q (q_eql_pair Try.underlying93 ⟨by decide, rfl, rfl⟩ ⟨by decide, rfl, rfl⟩ Try.underlying9 Try.isAgg9 (by kernel_rfl) (by kernel_rfl) rfl rfl rfl) ?_
        refine l_q (q_move (v := .bool _) rfl rfl) ?_
        refine l_part 48 rfl (fun hc44 => ?_) (fun hc44 => ?_)
        · skip
          try simp only [decide_eq_true_eq, decide_eq_false_iff_not, Bool.not_eq_true', Bool.not_eq_false', Bool.not_not, Bool.not_true, Bool.not_false, Bool.not_eq_true, Bool.not_eq_false, Int.not_lt, Int.not_le, Bool.and_eq_true, Bool.or_eq_true, Bool.and_eq_false_iff, Bool.or_eq_false_iff] at hc44
          have hsr := hc44
          refine l_q (q_load Try.isAgg3 rfl ((hc7.has (o := 0) rfl)) rfl) ?_
          refine l_q (q_geq rfl rfl rfl) ?_
          refine l_q (q_pick_t (v := .bool _) rfl rfl rfl) ?_
          refine l_q (q_assign (v := .bool _) rfl rfl) ?_
          refine l_nil ?_
          refine r_forget [(8, .bool _)] ⟨rfl, trivial⟩ (fun e45 => ?_)
          obtain ⟨wf46, hUf, hzf46, hFf46⟩ := unw_many hmk
          replace hB := below_unw hB hsz hFf46
          replace hsz : w.heap.size ≤ wf46.heap.size := by rw [hzf46]; exact hsz
          replace hc7 := hc7.unw hFf46
          replace hc9 := hc9.unw hFf46
          refine r_ret_ (vs := [.bool _]) rfl Try.func47 rfl (hUf) ⟨rfl, trivial⟩ ?_
          exact ⟨vbool_eq (by rw [prov_end hz (hd.trans (doS_end hil)), show (decide (s = []) && decide (r = [])) = true from by simp [hsr.1, hsr.2]]; rfl), Ext.of_below hB⟩
        · skip
          try simp only [decide_eq_true_eq, decide_eq_false_iff_not, Bool.not_eq_true', Bool.not_eq_false', Bool.not_not, Bool.not_true, Bool.not_false, Bool.not_eq_true, Bool.not_eq_false, Int.not_lt, Int.not_le, Bool.and_eq_true, Bool.or_eq_true, Bool.and_eq_false_iff, Bool.or_eq_false_iff] at hc44
          have hsr := hc44
          refine l_q (q_skip rfl) ?_
          refine l_q (q_skip rfl) ?_
          refine l_q (q_pick_f (v := .bool _) rfl rfl rfl) ?_
          refine l_q (q_assign (v := .bool _) rfl rfl) ?_
          refine l_nil ?_
          refine r_forget [(8, .bool _)] ⟨rfl, trivial⟩ (fun e47 => ?_)
          obtain ⟨wf48, hUf, hzf48, hFf48⟩ := unw_many hmk
          replace hB := below_unw hB hsz hFf48
          replace hsz : w.heap.size ≤ wf48.heap.size := by rw [hzf48]; exact hsz
          replace hc7 := hc7.unw hFf48
          replace hc9 := hc9.unw hFf48
          refine r_ret_ (vs := [.bool _]) rfl Try.func47 rfl (hUf) ⟨rfl, trivial⟩ ?_
          exact ⟨vbool_eq (by rw [prov_end hz (hd.trans (doS_end hil)), show (decide (s = []) && decide (r = [])) = false from by rcases hsr with h | h <;> simp [h]]; rfl), Ext.of_below hB⟩
end Go.Proofs.Ytkcbgpilfegofaa
