/- Contracts. -/
import Derived.Test.YtekkdhpgcilpdaaGreatM26
set_option linter.unusedVariables false
set_option linter.unusedSimpArgs false
namespace Go.Proofs.YtekkdhpgcilpdaaGreat
open Go Go.RowKit Go.Gv Go.Fl
/-! ### The document's example, whose rows are one's own -/
structure LnOwn (w : World) (B C B2 : Nat) (ka : Option Addr) (kc : Nat) (co : List Sg) (sa : Option Addr) (sc : Nat) (se : List Int) (ja : Option Addr) (jc : Nat) (sl : List SN) (ra : Option Addr) (rc : Nat) (rl : List RC) : Prop where
  co_ : w.ownsRow B 9 1 (.slice ka co.length kc) co.length (co.map vstr)
  se_ : w.ownsRow B 3 1 (.slice sa se.length sc) se.length (se.map vint)
  jo_ : w.ownsRow B 76 3 (.slice ja sl.length jc) sl.length (sl.flatMap SN.enc)
  tx_ : OwnsS w B2 3 sl
  re_ : w.ownsRow B 75 3 (.slice ra rl.length rc) rl.length (rl.flatMap RC.enc)
  lt : (∀ g, (Value.slice ka co.length kc).ownBlock = some g → g < C) ∧ (∀ g, (Value.slice sa se.length sc).ownBlock = some g → g < C) ∧ (∀ g, (Value.slice ja sl.length jc).ownBlock = some g → g < C) ∧ (∀ g, (Value.slice ra rl.length rc).ownBlock = some g → g < C) ∧ ∀ p ∈ sl, ∀ g, (Value.slice p.a p.xs.length p.c).ownBlock = some g → g < C
  sb : ∀ g, (Value.slice sa se.length sc).ownBlock = some g → g < B2
  bb : B ≤ B2
section
variable {w w' : World} {B C B2 : Nat} {ka : Option Addr} {kc : Nat} {co : List Sg} {sa : Option Addr} {sc : Nat} {se se2 : List Int} {ja : Option Addr} {jc : Nat} {sl sl2 : List SN} {ra : Option Addr} {rc : Nat} {rl rl2 : List RC} {row : Option Nat}
theorem own_in {base e size n : Nat} {v : Value} {xs : List Value} (h : w.ownsRow base e size v n xs) (hG : w.grownBy w' row) (hc : ∀ g, v.ownBlock = some g → g < C) (hr : ∀ g, row = some g → g < base ∨ C ≤ g) : w'.ownsRow base e size v n xs :=
  own_keepB h (fun g hg => hG.block g (h.lt g hg).2 (fun he => by
    have h1 := own_block_ge h hg
    have h2 := hc g hg
    have h3 := hr g he.symm
    omega))
theorem LnOwn.keep (h : LnOwn w B C B2 ka kc co sa sc se ja jc sl ra rc rl) (hG : w.grownBy w' row) (hr : ∀ g, row = some g → g < B ∨ C ≤ g) : LnOwn w' B C B2 ka kc co sa sc se ja jc sl ra rc rl :=
  ⟨own_in h.co_ hG h.lt.1 hr, own_in h.se_ hG h.lt.2.1 hr, own_in h.jo_ hG h.lt.2.2.1 hr, fun p hp => own_in (h.tx_ p hp) hG (h.lt.2.2.2.2 p hp) (fun g hg => by have := hr g hg; have := h.bb; omega), own_in h.re_ hG h.lt.2.2.2.1 hr, h.lt, h.sb, h.bb⟩
theorem LnOwn.ext (h : LnOwn w B C B2 ka kc co sa sc se ja jc sl ra rc rl) (hE : Ext w w') : LnOwn w' B C B2 ka kc co sa sc se ja jc sl ra rc rl := h.keep hE (fun g hg => by cases hg)
theorem LnOwn.at (h : LnOwn w B C B2 ka kc co sa sc se ja jc sl ra rc rl) : LgAt w ka kc co sa sc se ja jc sl ra rc rl := ⟨Row.of_owns h.co_, Row.of_owns h.se_, Row.of_owns h.jo_, h.tx_.rows, Row.of_owns h.re_⟩
theorem LnOwn.see (h : LnOwn w B C B2 ka kc co sa sc se ja jc sl ra rc rl) (hG : w.grownBy w' (Value.slice sa se.length sc).ownBlock) (ho : w'.ownsRow B 3 1 (.slice sa se.length sc) se.length (se2.map vint)) (hl : se2.length = se.length) : LnOwn w' B C B2 ka kc co sa sc se2 ja jc sl ra rc rl :=
  ⟨own_kept h.co_ h.se_ (by decide) hG, by rw [hl]; exact ho, own_kept h.jo_ h.se_ (by decide) hG, fun p hp => own_keepB (h.tx_ p hp) (fun g hg => hG.block g ((h.tx_ p hp).lt g hg).2 (fun he => by
    have h1 := own_block_ge (h.tx_ p hp) hg
    have h2 := h.sb g he.symm
    omega)), own_kept h.re_ h.se_ (by decide) hG, by rw [hl]; exact h.lt, by rw [hl]; exact h.sb, h.bb⟩
theorem LnOwn.jou (h : LnOwn w B C B2 ka kc co sa sc se ja jc sl ra rc rl) (hG : w.grownBy w' (Value.slice ja sl.length jc).ownBlock) (ho : w'.ownsRow B 76 3 (.slice ja sl.length jc) sl.length (sl2.flatMap SN.enc)) (hl : sl2.length = sl.length) (hx : ∀ p ∈ sl2, p ∈ sl ∨ p.a = none ∧ p.xs = [] ∧ p.c = 0) : LnOwn w' B C B2 ka kc co sa sc se ja jc sl2 ra rc rl :=
  ⟨own_kept h.co_ h.jo_ (by decide) hG, own_kept h.se_ h.jo_ (by decide) hG, by rw [hl]; exact ho, fun p hp => (hx p hp).elim (fun hp2 => own_kept (h.tx_ p hp2) h.jo_ (by decide) hG) (fun ⟨h1, h2, h3⟩ => by rw [h1, h2, h3]; exact World.ownsRow_nil _ _ _ _), own_kept h.re_ h.jo_ (by decide) hG,
    ⟨h.lt.1, h.lt.2.1, by rw [hl]; exact h.lt.2.2.1, h.lt.2.2.2.1, fun p hp => (hx p hp).elim (h.lt.2.2.2.2 p) (fun ⟨h1, _, _⟩ g hg => by rw [h1] at hg; cases hg)⟩, h.sb, h.bb⟩
theorem LnOwn.rec_ (h : LnOwn w B C B2 ka kc co sa sc se ja jc sl ra rc rl) (hG : w.grownBy w' (Value.slice ra rl.length rc).ownBlock) (ho : w'.ownsRow B 75 3 (.slice ra rl.length rc) rl.length (rl2.flatMap RC.enc)) (hl : rl2.length = rl.length) : LnOwn w' B C B2 ka kc co sa sc se ja jc sl ra rc rl2 :=
  ⟨own_kept h.co_ h.re_ (by decide) hG, own_kept h.se_ h.re_ (by decide) hG, own_kept h.jo_ h.re_ (by decide) hG, fun p hp => own_kept (h.tx_ p hp) h.re_ (by decide) hG, by rw [hl]; exact ho, ⟨h.lt.1, h.lt.2.1, h.lt.2.2.1, by rw [hl]; exact h.lt.2.2.2.1, h.lt.2.2.2.2⟩, h.sb, h.bb⟩
end
def lineS (a1 : Option Addr) (c1 : Nat) (a2 : Option Addr) (c2 : Nat) : List SN := [⟨6, 0, a1, c1, [1, 0]⟩, ⟨8, 1, a2, c2, [2]⟩]
def lineT (a2 : Option Addr) (c2 : Nat) : List SN := [⟨6, 0, none, 0, []⟩, ⟨8, 1, a2, c2, [2]⟩]
theorem big_lit {co : List Sg} {se : List Int} {sl : List SN} {rl : List RC} {J : List Sn} (hJ : sl.map SN.pn = J) (h1 : co.length ≤ 2097152 ∧ ∀ s ∈ co, s.length ≤ 2097152) (h2 : se.length ≤ 2097152) (h3 : J.length ≤ 2097152 ∧ ∀ y ∈ J, y.xs.length ≤ 2097152) (h4 : rl.length ≤ 2097152 ∧ ∀ r ∈ rl, r.s.length ≤ 2097152) {er : Int} (he : -9223372036854775808 ≤ er ∧ er ≤ 9223372036854775807) : LgBig co er se sl rl := by
  refine ⟨h1, he, h2, ⟨?_, fun x hx => ?_⟩, h4⟩
  · have := congrArg List.length hJ
    rw [List.length_map] at this
    omega
  · exact h3.2 x.pn (by rw [← hJ]; exact List.mem_map.2 ⟨x, hx, rfl⟩)
def codB : List Sg := [[46], [46]]
def lineX : List RC := [⟨6, 0, [120]⟩, ⟨8, 1, [45]⟩, ⟨9, 0, [46]⟩]
theorem own_line2 : ownM (lineL []) 2 = ([], 0) := by decide +kernel
theorem own_line3 : ownM (lineL []) 3 = ([], 2) := by decide +kernel
theorem tx6_line : textsL (lineL []) 6 = [] := by rw [tx_line]; decide +kernel
theorem tx8_line1 : textsL (lineL []) ((lineL []).R.getD (1 : Int).toNat rcd0).h = [[0], [1], [1, 0]] := by
  have h : ((lineL []).R.getD (1 : Int).toNat rcd0).h = 8 := rfl
  rw [h]; exact tx8_line
theorem heard_line6 : heardM (lineL []) 6 = ([], 0) := by rw [heardM_0 line_ok (by decide +kernel), tx6_line]
theorem heard_line24 : heardM (lineL []) 24 = ([], 2) := heardM_2 line_ok (by decide +kernel)
theorem masked_line1 : maskedM (lineL []) 1 = ([1], 0) := by
  unfold maskedM maskO
  rw [if_neg (by decide +kernel), tx8_line1]
  decide +kernel
theorem masked_line0 : maskedM (lineL []) 0 = ([], 7) := by
  unfold maskedM maskO
  have h : ((lineL []).R.getD (0 : Int).toNat rcd0).h = 6 := rfl
  rw [if_neg (by decide +kernel), h, tx6_line]; rfl
theorem masked_linen : maskedM (lineL []) (-1) = ([], 2) := by
  rw [maskedM_f (by decide +kernel)]
  decide +kernel
theorem leave_line0 : leavW (lineL []) = ([], 0) := by decide +kernel
theorem prov_line1 : provM (lineL []) [0, 1, -1] = true := by decide +kernel
theorem prov_line2 : provM (lineL []) [0, -1, -1] = true := by decide +kernel
theorem prov_line3 : provM (lineL []) [-1, 1, -1] = false := by decide +kernel
theorem prov_line4 : provM (lineL []) [0, 1] = false := by decide +kernel
theorem prov_line5 : provM (lineL []) [0, 0, -1] = false := by decide +kernel
theorem verd_line4 : verdW (lineL [rc4]) = ([], 11) := by decide +kernel
theorem assign_line4 : assignM (lineL [rc4]) = ([], 11) := by decide +kernel
theorem fault_many {sl : List SN} (h : sl.map SN.pn = lineJ) : faultM (lg cod3 1 [0, 0, 0, 0, 0] sl (lineR ++ [])) = 3 := by unfold lg; rw [h]; decide +kernel
theorem fault_code {sl : List SN} (h : sl.map SN.pn = lineJ) : faultM (lg codB 1 [5, -1] sl (lineR ++ [])) = 1 := by unfold lg; rw [h]; decide +kernel
theorem fault_sees {sl : List SN} (h : sl.map SN.pn = lineJ) : faultM (lg cod3 1 [24, -1] sl (lineR ++ [])) = 1 := by unfold lg; rw [h]; decide +kernel
theorem fault_text {a2 : Option Addr} {c2 : Nat} : faultM (lg cod3 1 [5, -1] (lineT a2 c2) (lineR ++ [])) = 1 := by
  have h : (lineT a2 c2).map SN.pn = [⟨6, 0, []⟩, ⟨8, 1, [2]⟩] := rfl
  unfold lg; rw [h]; decide +kernel
theorem fault_read {sl : List SN} (h : sl.map SN.pn = lineJ) : faultM (lg cod3 1 [5, -1] sl lineX) = 1 := by unfold lg; rw [h]; decide +kernel
theorem fault_nil : faultM (lg [] 0 [] [] []) = 1 := by decide +kernel
theorem ownsS2 {w : World} {B el : Nat} {x y : SN} (hx : w.ownsRow B el 1 (.slice x.a x.xs.length x.c) x.xs.length (x.xs.map vint)) (hy : w.ownsRow B el 1 (.slice y.a y.xs.length y.c) y.xs.length (y.xs.map vint)) : OwnsS w B el [x, y] := fun p hp => by
  rcases List.mem_cons.1 hp with rfl | hp
  · exact hx
  · rw [List.mem_singleton.1 hp]; exact hy


theorem line7_ret (ma : Option Addr) (mc : Nat) (ml : List RC) (w : World) (hm0 : Row w ma ml.length mc 3 (ml.flatMap RC.enc)) (hmn : ml.length ≤ 1) : Ret Tryz.prog 49 [.slice ma ml.length mc] w (fun v w' => ∃ B2 ka kc sa sc ja jc a1 c1 a2 c2 ra rc, v = .agg ⟨[.slice ka cod3.length kc, vint 1, .slice sa [(5 : Int), -1].length sc, .slice ja (lineS a1 c1 a2 c2).length jc, .slice ra (lineR ++ ml).length rc]⟩ ∧ LnOwn w' w.heap.size w'.heap.size B2 ka kc cod3 sa sc [5, -1] ja jc (lineS a1 c1 a2 c2) ra rc (lineR ++ ml) ∧ Ext w w') := by
 have hB := Below.refl w.heap.size w
 have hsz : w.heap.size ≤ w.heap.size := Nat.le_refl _
 refine ret_of_runs (args := [_]) Tryz.func49 rfl (Nat.le_of_ble_eq_true rfl) (by kernel_rfl) (r_seq (r_region' (l_o (o_alloct Tryz.zeroValue38 rfl rfl ?_))))
 intro b1 w1 hzl1 hzr1 _ hb1 hty_b1 hE1
 have hbs_b1 : w.heap.size ≤ b1 := Nat.le_trans hsz hzl1
 replace hB := below_ext hB hE1 hsz
 replace hsz := Nat.le_trans hsz hE1.size
 refine l_nil (r_seq (r_region' (l_o (o_buildSlice (el := 9) (cs := [vstr [46], vstr [45], vstr [46, 46]]) Tryz.underlying22 el9 (by decide) (by kernel_rfl) rfl (by decide) rfl ?_))))
 intro b2 w2 hzl2 hzr2 _ hb2 hE2 ho2
 have hszq2 : w.heap.size ≤ w1.heap.size := hsz
 have hne_b1_b2 : b1 ≠ b2 := by have := hb1.lt; omega
 have hbs_b2 : w.heap.size ≤ b2 := Nat.le_trans hsz hzl2
 replace hB := below_ext hB hE2 hsz
 replace hb1 := hb1.ext hE2
 replace hty_b1 := hty_b1.ext hE2
 replace hsz := Nat.le_trans hsz hE2.size
 refine l_q (q_build (v := .agg ⟨[.slice (some ⟨b2, 0, none⟩) 3 3]⟩) (fun w => by kernel_rfl) rfl) (l_o (o_buildSlice (el := 3) (cs := [vint 5, vint (-1)]) Tryz.underlying25 el3 (by decide) (by kernel_rfl) rfl (by decide) rfl ?_))
 intro b3 w3 hzl3 hzr3 _ hb3 hE3 ho3
 have hszq3 : w.heap.size ≤ w2.heap.size := hsz
 have hne_b1_b3 : b1 ≠ b3 := by have := hb1.lt; omega
 have hbs_b3 : w.heap.size ≤ b3 := Nat.le_trans hsz hzl3
 replace hB := below_ext hB hE3 hsz
 replace hb1 := hb1.ext hE3
 replace hty_b1 := hty_b1.ext hE3
 replace ho2 := own_ext ho2 hE3
 replace hsz := Nat.le_trans hsz hE3.size
 have hsb : ∀ g, (Value.slice (some ⟨b3, 0, none⟩) 2 2).ownBlock = some g → g < w3.heap.size := fun g hg => (ho3.lt g hg).2
 have hszB0 : w.heap.size ≤ w3.heap.size := hsz
 have hszB : w3.heap.size ≤ w3.heap.size := Nat.le_refl _
 refine l_o (o_buildSlice (el := 3) (cs := [vint 1, vint 0]) Tryz.underlying25 el3 (by decide) (by kernel_rfl) rfl (by decide) rfl ?_)
 intro b4 w4 hzl4 hzr4 _ hb4 hE4 ho4
 have hszq4 : w.heap.size ≤ w3.heap.size := hsz
 have hne_b1_b4 : b1 ≠ b4 := by have := hb1.lt; omega
 have hbs_b4 : w.heap.size ≤ b4 := Nat.le_trans hsz hzl4
 replace hB := below_ext hB hE4 hsz
 replace hb1 := hb1.ext hE4
 replace hty_b1 := hty_b1.ext hE4
 replace ho2 := own_ext ho2 hE4
 replace ho3 := own_ext ho3 hE4
 replace hszB := Nat.le_trans hszB hE4.size
 replace hsz := Nat.le_trans hsz hE4.size
 refine l_q (q_build (v := .agg ⟨[vint 6, vint 0, .slice (some ⟨b4, 0, none⟩) 2 2]⟩) (fun w => by kernel_rfl) rfl) ?_
 have hszB8 := hszB
 refine l_o (o_buildSlice (el := 3) (cs := [vint 2]) Tryz.underlying25 el3 (by decide) (by kernel_rfl) rfl (by decide) rfl ?_)
 intro b5 w5 hzl5 hzr5 _ hb5 hE5 ho5
 have hszq5 : w.heap.size ≤ w4.heap.size := hsz
 have hne_b1_b5 : b1 ≠ b5 := by have := hb1.lt; omega
 have hbs_b5 : w.heap.size ≤ b5 := Nat.le_trans hsz hzl5
 replace hB := below_ext hB hE5 hsz
 replace hb1 := hb1.ext hE5
 replace hty_b1 := hty_b1.ext hE5
 replace ho2 := own_ext ho2 hE5
 replace ho3 := own_ext ho3 hE5
 replace hszB := Nat.le_trans hszB hE5.size
 replace ho4 := own_ext ho4 hE5
 replace hsz := Nat.le_trans hsz hE5.size
 refine l_q (q_build (v := .agg ⟨[vint 8, vint 1, .slice (some ⟨b5, 0, none⟩) 1 1]⟩) (fun w => by kernel_rfl) rfl) (l_o (o_buildSlice (el := 76) (cs := [vint 6, vint 0, .slice (some ⟨b4, 0, none⟩) 2 2, vint 8, vint 1, .slice (some ⟨b5, 0, none⟩) 1 1]) Tryz.underlying35 el76 (by decide) (by kernel_rfl) rfl (by decide) rfl ?_))
 intro b6 w6 hzl6 hzr6 _ hb6 hE6 ho6
 have hszq6 : w.heap.size ≤ w5.heap.size := hsz
 have hne_b1_b6 : b1 ≠ b6 := by have := hb1.lt; omega
 have hbs_b6 : w.heap.size ≤ b6 := Nat.le_trans hsz hzl6
 replace hB := below_ext hB hE6 hsz
 replace hb1 := hb1.ext hE6
 replace hty_b1 := hty_b1.ext hE6
 replace ho2 := own_ext ho2 hE6
 replace ho3 := own_ext ho3 hE6
 replace hszB := Nat.le_trans hszB hE6.size
 replace ho4 := own_ext ho4 hE6
 replace ho5 := own_ext ho5 hE6
 replace hsz := Nat.le_trans hsz hE6.size
 refine l_q (q_build (v := .agg ⟨[vint 6, vint 0, vstr [45, 32, 46]]⟩) (fun w => by kernel_rfl) rfl) (l_q (q_build (v := .agg ⟨[vint 8, vint 1, vstr [45]]⟩) (fun w => by kernel_rfl) rfl) (l_q (q_build (v := .agg ⟨[vint 9, vint 0, vstr [46]]⟩) (fun w => by kernel_rfl) rfl) (l_o (o_buildSlice (el := 75) (cs := [vint 6, vint 0, vstr [45, 32, 46], vint 8, vint 1, vstr [45], vint 9, vint 0, vstr [46]]) Tryz.underlying36 el75 (by decide) (by kernel_rfl) rfl (by decide) rfl ?_))))
 intro b7 w7 hzl7 hzr7 _ hb7 hE7 ho7
 have hszq7 : w.heap.size ≤ w6.heap.size := hsz
 have hne_b1_b7 : b1 ≠ b7 := by have := hb1.lt; omega
 have hbs_b7 : w.heap.size ≤ b7 := Nat.le_trans hsz hzl7
 replace hB := below_ext hB hE7 hsz
 replace hb1 := hb1.ext hE7
 replace hty_b1 := hty_b1.ext hE7
 replace ho2 := own_ext ho2 hE7
 replace ho3 := own_ext ho3 hE7
 replace hszB := Nat.le_trans hszB hE7.size
 replace ho4 := own_ext ho4 hE7
 replace ho5 := own_ext ho5 hE7
 replace ho6 := own_ext ho6 hE7
 replace hsz := Nat.le_trans hsz hE7.size
 refine l_q (qms rfl rfl) (l_o (o_append_wide RC.one (([⟨6, 0, [45, 32, 46]⟩, ⟨8, 1, [45]⟩, ⟨9, 0, [46]⟩] : List RC)) (ml) Tryz.underlying36 el75 rfl rfl ho7 rfl (hm0.below hB) (by (try simp only [List.length_append, List.length_cons, List.length_nil, List.length_take, List.length_drop, List.length_replicate]); omega) (by omega) rfl ?_))
 intro a9 c9 w9 hz9 ho9 hG9
 replace hB := below_own hB hG9 ho7 (by omega) hsz
 replace hsz := Nat.le_trans hsz hG9.size
 replace hb1 := hb1.step hG9 (own_ty_ne ho7 hty_b1 (by decide))
 replace ho2 := own_kept ho2 ho7 (by decide) hG9
 replace ho3 := own_kept ho3 ho7 (by decide) hG9
 replace hszB := Nat.le_trans hszB hG9.size
 replace ho4 := own_kept ho4 ho7 (by decide) hG9
 replace ho5 := own_kept ho5 ho7 (by decide) hG9
 replace ho6 := own_kept ho6 ho7 (by decide) hG9
 replace hty_b1 := TyAt.own hty_b1 ho7 hG9 (by decide)
 refine l_q (q_build (v := .agg ⟨[.slice (some ⟨b2, 0, none⟩) 3 3, vint 1, .slice (some ⟨b3, 0, none⟩) 2 2, .slice (some ⟨b6, 0, none⟩) 2 2, .slice a9 ((([⟨6, 0, [45, 32, 46]⟩, ⟨8, 1, [45]⟩, ⟨9, 0, [46]⟩] : List RC) ++ ml).length) c9]⟩) (fun w => by kernel_rfl) rfl) (l_o (o_storet (vs := [.slice (some ⟨b2, 0, none⟩) 3 3, vint 1, .slice (some ⟨b3, 0, none⟩) 2 2, .slice (some ⟨b6, 0, none⟩) 2 2, .slice a9 ((([⟨6, 0, [45, 32, 46]⟩, ⟨8, 1, [45]⟩, ⟨9, 0, [46]⟩] : List RC) ++ ml).length) c9]) (cs' := [.slice (some ⟨b2, 0, none⟩) 3 3, vint 1, .slice (some ⟨b3, 0, none⟩) 2 2, .slice (some ⟨b6, 0, none⟩) 2 2, .slice a9 ((([⟨6, 0, [45, 32, 46]⟩, ⟨8, 1, [45]⟩, ⟨9, 0, [46]⟩] : List RC) ++ ml).length) c9]) Tryz.sizeOf38 rfl rfl rfl rfl hb1 (Nat.le_of_ble_eq_true rfl) rfl rfl ?_))
 intro w10 hz10 hb1 hT10 hG10
 replace hB := below_upd hB hG10 hsz (by omega)
 replace hsz : w.heap.size ≤ w10.heap.size := by rw [hz10]; exact hsz
 replace ho2 := own_ty_upd ho2 hty_b1 hG10 (by decide)
 replace ho3 := own_ty_upd ho3 hty_b1 hG10 (by decide)
 replace hszB := Nat.le_trans hszB hG10.size
 replace ho4 := own_ty_upd ho4 hty_b1 hG10 (by decide)
 replace ho5 := own_ty_upd ho5 hty_b1 hG10 (by decide)
 replace ho6 := own_ty_upd ho6 hty_b1 hG10 (by decide)
 replace ho9 := own_ty_upd ho9 hty_b1 hG10 (by decide)
 refine l_nil (r_forget [(2, .pointer _)] ⟨rfl, trivial⟩ (fun e11 => (r_ret_ (vs := [.agg _]) rfl Tryz.func49 rfl (.nil _) ⟨⟨_, _, rfl, run_loadVarA Tryz.isAgg38 Tryz.sizeOf38 (hb1.cells' (cs' := [_, _, _, _, _]) 0 5 rfl) rfl⟩, trivial⟩ ?_)))
 have htx : OwnsS w10 w3.heap.size 3 (lineS (some ⟨b4, 0, none⟩) 2 (some ⟨b5, 0, none⟩) 1) := ownsS2 ho4 (own_mono ho5 (by omega))
 exact ⟨w3.heap.size, (some ⟨b2, 0, none⟩), 3, (some ⟨b3, 0, none⟩), 2, (some ⟨b6, 0, none⟩), 2, (some ⟨b4, 0, none⟩), 2, (some ⟨b5, 0, none⟩), 1, a9, c9, rfl, ⟨own_mono ho2 (by omega), own_mono ho3 (by omega), own_mono ho6 (by omega), htx, own_mono ho9 (by omega), ⟨(fun g hg => (ho2.lt g hg).2), (fun g hg => (ho3.lt g hg).2), (fun g hg => (ho6.lt g hg).2), (fun g hg => (ho9.lt g hg).2), (fun p hp g hg => ((htx p hp).lt g hg).2)⟩, hsb, hszB0⟩, Ext.of_below hB⟩
end Go.Proofs.YtekkdhpgcilpdaaGreat
