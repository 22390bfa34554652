/- Contracts. -/
import Derived.Test.YtbikicakdkbcgaaR21
import Derived.Test.YtbikicakdkbcgaaGvPut
set_option linter.unusedVariables false
set_option linter.unusedSimpArgs false
namespace Go.Proofs.Ytbikicakdkbcgaa
open Go Go.RowKit Go.Gv Go.Fl
/-! ### The document's examples, whose rows are one's own -/
structure TwOwn (w : World) (B C B2 : Nat) (na : Option Addr) (nc : Nat) (nd : List Int) (pa : Option Addr) (pc : Nat) (pl : List PV) (y1 : Option Addr) (k1 : Nat) (z1 : Option Addr) (l1 : Nat) (ca : Option Addr) (cc : Nat) (i1 : Option Addr) (d1 : Nat) (xs : List Int) : Prop where
  nd_ : w.ownsRow B 3 1 (.slice na nd.length nc) nd.length (nd.map vint)
  pl_ : w.ownsRow B 45 3 (.slice pa pl.length pc) pl.length (pl.flatMap PV.enc)
  y_ : w.ownsRow B 4 1 (.slice y1 4 k1) 4 ([true, true, true, true].map Value.bool)
  z_ : w.ownsRow B 4 1 (.slice z1 4 l1) 4 ([false, true, true, false].map Value.bool)
  ca_ : w.ownsRow B 26 1 (.slice ca 1 cc) 1 [.slice i1 xs.length d1]
  in_ : w.ownsRow B2 3 1 (.slice i1 xs.length d1) xs.length (xs.map vint)
  lt : (∀ g, (Value.slice na nd.length nc).ownBlock = some g → g < C) ∧ (∀ g, (Value.slice pa pl.length pc).ownBlock = some g → g < C) ∧ (∀ g, (Value.slice y1 4 k1).ownBlock = some g → g < C) ∧ (∀ g, (Value.slice z1 4 l1).ownBlock = some g → g < C) ∧ (∀ g, (Value.slice ca 1 cc).ownBlock = some g → g < C) ∧ ∀ g, (Value.slice i1 xs.length d1).ownBlock = some g → g < C
  sb : ∀ g, (Value.slice na nd.length nc).ownBlock = some g → g < B2
  bb : B ≤ B2
structure GlOwn (w : World) (B C : Nat) (ga : Option Addr) (gc : Nat) (G : List RG) : Prop where
  row : w.ownsRow B 41 2 (.slice ga G.length gc) G.length (G.flatMap RG.enc)
  lt : ∀ g, (Value.slice ga G.length gc).ownBlock = some g → g < C
section
variable {w w' : World} {B C B2 : Nat} {na : Option Addr} {nc : Nat} {nd nd2 : List Int} {pa : Option Addr} {pc : Nat} {pl pl2 : List PV} {y1 : Option Addr} {k1 : Nat} {z1 : Option Addr} {l1 : Nat} {ca : Option Addr} {cc : Nat} {i1 : Option Addr} {d1 : Nat} {xs xs2 : List Int} {row : Option Nat} {ga : Option Addr} {gc : Nat} {G G2 : List RG}
theorem own_in {base e size n : Nat} {v : Value} {xs : List Value} (h : w.ownsRow base e size v n xs) (hG : w.grownBy w' row) (hc : ∀ g, v.ownBlock = some g → g < C) (hr : ∀ g, row = some g → g < base ∨ C ≤ g) : w'.ownsRow base e size v n xs :=
  own_keepB h (fun g hg => hG.block g (h.lt g hg).2 (fun he => by
    have h1 := own_block_ge h hg
    have h2 := hc g hg
    have h3 := hr g he.symm
    omega))
theorem TwOwn.keep (h : TwOwn w B C B2 na nc nd pa pc pl y1 k1 z1 l1 ca cc i1 d1 xs) (hG : w.grownBy w' row) (hr : ∀ g, row = some g → g < B ∨ C ≤ g) : TwOwn w' B C B2 na nc nd pa pc pl y1 k1 z1 l1 ca cc i1 d1 xs :=
  ⟨own_in h.nd_ hG h.lt.1 hr, own_in h.pl_ hG h.lt.2.1 hr, own_in h.y_ hG h.lt.2.2.1 hr, own_in h.z_ hG h.lt.2.2.2.1 hr, own_in h.ca_ hG h.lt.2.2.2.2.1 hr, own_in h.in_ hG h.lt.2.2.2.2.2 (fun g hg => by have := hr g hg; have := h.bb; omega), h.lt, h.sb, h.bb⟩
theorem TwOwn.ext (h : TwOwn w B C B2 na nc nd pa pc pl y1 k1 z1 l1 ca cc i1 d1 xs) (hE : Ext w w') : TwOwn w' B C B2 na nc nd pa pc pl y1 k1 z1 l1 ca cc i1 d1 xs := h.keep hE (fun g hg => by cases hg)
theorem TwOwn.need (h : TwOwn w B C B2 na nc nd pa pc pl y1 k1 z1 l1 ca cc i1 d1 xs) (hG : w.grownBy w' (Value.slice na nd.length nc).ownBlock) (ho : w'.ownsRow B 3 1 (.slice na nd.length nc) nd.length (nd2.map vint)) (hl : nd2.length = nd.length) : TwOwn w' B C B2 na nc nd2 pa pc pl y1 k1 z1 l1 ca cc i1 d1 xs :=
  ⟨by rw [hl]; exact ho, own_kept h.pl_ h.nd_ (by decide) hG, own_kept h.y_ h.nd_ (by decide) hG, own_kept h.z_ h.nd_ (by decide) hG, own_kept h.ca_ h.nd_ (by decide) hG, own_keepB h.in_ (fun g hg => hG.block g (h.in_.lt g hg).2 (fun he => by
    have h1 := own_block_ge h.in_ hg
    have h2 := h.sb g he.symm
    omega)), by rw [hl]; exact h.lt, by rw [hl]; exact h.sb, h.bb⟩
theorem TwOwn.ppl (h : TwOwn w B C B2 na nc nd pa pc pl y1 k1 z1 l1 ca cc i1 d1 xs) (hG : w.grownBy w' (Value.slice pa pl.length pc).ownBlock) (ho : w'.ownsRow B 45 3 (.slice pa pl.length pc) pl.length (pl2.flatMap PV.enc)) (hl : pl2.length = pl.length) : TwOwn w' B C B2 na nc nd pa pc pl2 y1 k1 z1 l1 ca cc i1 d1 xs :=
  ⟨own_kept h.nd_ h.pl_ (by decide) hG, by rw [hl]; exact ho, own_kept h.y_ h.pl_ (by decide) hG, own_kept h.z_ h.pl_ (by decide) hG, own_kept h.ca_ h.pl_ (by decide) hG, own_kept h.in_ h.pl_ (by decide) hG, ⟨h.lt.1, by rw [hl]; exact h.lt.2.1, h.lt.2.2⟩, h.sb, h.bb⟩
theorem TwOwn.inn (h : TwOwn w B C B2 na nc nd pa pc pl y1 k1 z1 l1 ca cc i1 d1 xs) (hG : w.grownBy w' (Value.slice i1 xs.length d1).ownBlock) (ho : w'.ownsRow B2 3 1 (.slice i1 xs.length d1) xs.length (xs2.map vint)) (hl : xs2.length = xs.length) : TwOwn w' B C B2 na nc nd pa pc pl y1 k1 z1 l1 ca cc i1 d1 xs2 :=
  ⟨own_keepB h.nd_ (fun g hg => hG.block g (h.nd_.lt g hg).2 (fun he => by
    have h1 := own_block_ge h.in_ he.symm
    have h2 := h.sb g hg
    omega)), own_kept h.pl_ h.in_ (by decide) hG, own_kept h.y_ h.in_ (by decide) hG, own_kept h.z_ h.in_ (by decide) hG, by rw [hl]; exact own_kept h.ca_ h.in_ (by decide) hG, by rw [hl]; exact ho, by rw [hl]; exact h.lt, h.sb, h.bb⟩
theorem GlOwn.keep (h : GlOwn w B C ga gc G) (hG : w.grownBy w' row) (hr : ∀ g, row = some g → g < B ∨ C ≤ g) : GlOwn w' B C ga gc G := ⟨own_in h.row hG h.lt hr, h.lt⟩
theorem GlOwn.ext (h : GlOwn w B C ga gc G) (hE : Ext w w') : GlOwn w' B C ga gc G := h.keep hE (fun g hg => by cases hg)
theorem GlOwn.put (h : GlOwn w B C ga gc G) (ho : w'.ownsRow B 41 2 (.slice ga G.length gc) G.length (G2.flatMap RG.enc)) (hl : G2.length = G.length) : GlOwn w' B C ga gc G2 := ⟨by rw [hl]; exact ho, by rw [hl]; exact h.lt⟩
theorem rowsI1 {B : Nat} (h : w.ownsRow B 3 1 (.slice i1 xs.length d1) xs.length (xs.map vint)) : RowsI w [⟨i1, d1, xs⟩] := fun s hs => by
  rw [List.mem_singleton.1 hs]; exact Row.of_owns h
end
def towPV (y1 : Option Addr) (k1 : Nat) (z1 : Option Addr) (l1 : Nat) : List PV := [⟨y1, k1, [true, true, true, true], 1, 2⟩, ⟨y1, k1, [true, true, true, true], 1, 2⟩, ⟨z1, l1, [false, true, true, false], 0, 4⟩]
def abPV (b : Nat) (y1 : Option Addr) (k1 : Nat) (z1 : Option Addr) (l1 : Nat) : List PV := [⟨some ⟨b, 0, none⟩, 1, [true], 1, 2⟩, ⟨y1, k1, [true, true, true, true], 1, 2⟩, ⟨z1, l1, [false, true, true, false], 0, 4⟩]
def rePV (y1 : Option Addr) (k1 : Nat) (z1 : Option Addr) (l1 : Nat) : List PV := [⟨y1, k1, [true, true, true, true], 6, 2⟩, ⟨y1, k1, [true, true, true, true], 1, 2⟩, ⟨z1, l1, [false, true, true, false], 0, 4⟩]
def n1PV (y1 : Option Addr) (k1 : Nat) (z1 : Option Addr) (l1 : Nat) : List PV := [⟨y1, k1, [true, true, true, true], 1, 0⟩, ⟨y1, k1, [true, true, true, true], 1, 2⟩, ⟨z1, l1, [false, true, true, false], 0, 4⟩]
def n2PV (y1 : Option Addr) (k1 : Nat) (z1 : Option Addr) (l1 : Nat) : List PV := [⟨y1, k1, [true, true, true, true], 1, 0⟩, ⟨y1, k1, [true, true, true, true], 1, 0⟩, ⟨z1, l1, [false, true, true, false], 0, 4⟩]
def abPl : List PV := [⟨none, 0, [true], 1, 2⟩, ⟨none, 0, [true, true, true, true], 1, 2⟩, ⟨none, 0, [false, true, true, false], 0, 4⟩]
def rePl : List PV := [⟨none, 0, [true, true, true, true], 6, 2⟩, ⟨none, 0, [true, true, true, true], 1, 2⟩, ⟨none, 0, [false, true, true, false], 0, 4⟩]
def n2Pl : List PV := [⟨none, 0, [true, true, true, true], 1, 0⟩, ⟨none, 0, [true, true, true, true], 1, 0⟩, ⟨none, 0, [false, true, true, false], 0, 4⟩]
def neN : List Int := [3, 1, 1, 1]
def ilL : List SV := [⟨none, 0, [4, -1, -1]⟩]
def maL : List SV := List.replicate 5 sv0
def towL5 : List SV := [⟨none, 0, [2, -1, -1]⟩, ⟨none, 0, [-1, 3, -1]⟩]
theorem towL5_big : PoBig towN towPl towL5 := ⟨by decide, by decide, by decide, by decide, by decide⟩
theorem neN_big : PoBig neN towPl towL := ⟨by decide, by decide, by decide, by decide, by decide⟩
theorem abPl_big : PoBig towN abPl towL := ⟨by decide, by decide, by decide, by decide, by decide⟩
theorem rePl_big : PoBig towN rePl towL := ⟨by decide, by decide, by decide, by decide, by decide⟩
theorem n2Pl_big : PoBig towN n2Pl towL := ⟨by decide, by decide, by decide, by decide, by decide⟩
theorem ilL_big : PoBig towN towPl ilL := ⟨by decide, by decide, by decide, by decide, by decide⟩
theorem maL_big : PoBig towN towPl maL := ⟨by decide, by decide, by decide, by decide, by decide⟩
theorem zero_big : PoBig [] [] [] := ⟨by decide, by decide, by decide, by decide, by decide⟩
theorem tow_best5 : bestR towN towPl towL5 = ([[0], [1], [2], [0, 1]], 5, 0) := by rw [best_c]; decide +kernel
theorem none_best : bestR towN n2Pl towL = ([], 0, 10) := by rw [best_c]; decide +kernel
theorem none_enough : enoughR towN n2Pl towL = (10, []) := by rw [enough_c]; decide +kernel
theorem tow_rules1 : rulesR towN towPl towL [[0], [1], [0], [1]] = (true, 0) := by decide +kernel
theorem tow_rules2 : rulesR towN towPl towL [[0], [3], [2], [1]] = (false, 2) := by decide +kernel
abbrev provT (r : List (List Int)) (n : Int) : Bool := proveX towN towPl (towL.map (·.xs)) (planP (po towN towPl towL) r) r n
theorem tow_prove1 : provT [[0], [1], [2], [1]] 4 = true := by decide +kernel
theorem tow_prove2 : provT [[0], [1], [2], [1]] 3 = false := by decide +kernel
theorem tow_prove3 : provT [[0], [1], [0], [1]] 9 = false := by decide +kernel
theorem tow_prove4 : provT [[0], [0], [2], [1]] 9 = false := by decide +kernel
theorem tow_prove5 : provT [[0], [1], [2]] 9 = false := by decide +kernel
theorem tow_prove6 : provT [[0], [1, 0], [2], [1]] 9 = false := by decide +kernel
theorem glass_bright0 : brightM 60 glassG [] = (0, [⟨80, 90⟩, ⟨55, 85⟩, ⟨45, 85⟩, ⟨30, 75⟩]) := by rfl
theorem glass_bright4 : brightM 60 glassG [4] = (2, []) := by rfl
theorem glass_bright1 : brightM 60 glassG [1, 1] = (2, []) := by rfl
def glassL : List RG := [⟨10, 9⟩, ⟨5, 25⟩, ⟨0, 10⟩, ⟨10, 15⟩]
def glass9 : List RG := List.replicate 9 rg0
theorem floor_polish : polishM 101 glassG = (1, []) := by decide +kernel
theorem loss_polish : polishM 60 glassL = (1, []) := by decide +kernel
theorem long_polish : polishM 60 glass9 = (3, []) := by decide +kernel
theorem dark_polish : polishM 76 glassG = (10, []) := by decide +kernel
theorem need_fault : faultP (po neN towPl towL) = 1 := by decide +kernel
theorem able_fault : faultP (po towN abPl towL) = 1 := by decide +kernel
theorem rest_fault : faultP (po towN rePl towL) = 1 := by decide +kernel
theorem ill_fault : faultP (po towN towPl ilL) = 1 := by decide +kernel
theorem many_fault : faultP (po towN towPl maL) = 3 := by decide +kernel
theorem zero_fault : faultP (po [] [] []) = 1 := by decide +kernel
theorem rowsI_rep {w : World} {n : Nat} : RowsI w (List.replicate n sv0) := fun s hs => by
  rw [(List.mem_replicate.1 hs).2]; exact Row.nil _ _ _ _
theorem rowC1 {w : World} {B : Nat} {ca : Option Addr} {cc : Nat} {i1 : Option Addr} {d1 : Nat} {xs : List Int} (h : w.ownsRow B 26 1 (.slice ca 1 cc) 1 [.slice i1 xs.length d1]) : Row w ca 1 cc 1 ([(⟨i1, d1, xs⟩ : SV)].map SV.enc) := Row.of_owns h
def ClsBk (b : Nat) (cs : List Value) (w w' : World) : Prop := Blk w b cs → Blk w' b cs
theorem ClsBk.refl (b : Nat) (cs : List Value) : ∀ w, ClsBk b cs w w := fun _ h => h
theorem ClsBk.trans (b : Nat) (cs : List Value) : ∀ u v w, ClsBk b cs u v → ClsBk b cs v w → ClsBk b cs u w := fun _ _ _ h1 h2 h => h2 (h1 h)
theorem made9 : (madeCells (Value.agg ⟨[vint 0, vint 0]⟩).cells (9 * 2)).toList = glass9.flatMap RG.enc := by first | rfl | kernel_rfl | decide +kernel

theorem zero_post (w : World) : Ret Try.prog 13 [.agg ⟨[.slice none 0 0, .slice none 0 0, .slice none 0 0]⟩] w (fun v w' => v = vint 1 ∧ Ext w w') := by
  have h := checkPost_ret none 0 ([] : List Int) none 0 ([] : List PV) none 0 ([] : List SV) w ⟨(Row.nil _ _ _ _), (Row.nil _ _ _ _), (fun p hp => by cases hp), (Row.nil _ _ _ _), (RowsI.nil _)⟩ zero_big.1 zero_big.2.1 zero_big.2.2.1 zero_big.2.2.2.1
  rw [zero_fault] at h
  exact h


theorem tower7_ret (w : World) : Ret Try.prog 5 [.slice none 0 0] w (fun v w' => ∃ B2 na nc pa pc y1 k1 z1 l1 ca cc i1 d1, v = .agg ⟨[.slice na towN.length nc, .slice pa (towPV y1 k1 z1 l1).length pc, .slice ca 1 cc]⟩ ∧ TwOwn w' w.heap.size w'.heap.size B2 na nc towN pa pc (towPV y1 k1 z1 l1) y1 k1 z1 l1 ca cc i1 d1 [2, -1, -1] ∧ Ext w w') := by
 have hB := Below.refl w.heap.size w
 have hsz : w.heap.size ≤ w.heap.size := Nat.le_refl _
 refine ret_of_runs (args := [_]) Try.func5 rfl (Nat.le_of_ble_eq_true rfl) (by kernel_rfl) (r_seq (r_region' (l_o (o_alloct Try.zeroValue29 rfl rfl ?_))))
 intro b1 w1 hzl1 hzr1 _ hb1 hty_b1 hE1
 have hbs_b1 : w.heap.size ≤ b1 := Nat.le_trans hsz hzl1
 replace hB := below_ext hB hE1 hsz
 replace hsz := Nat.le_trans hsz hE1.size
 refine l_nil (r_seq (r_region' (l_o (o_buildSlice (el := 4) (cs := [.bool true, .bool true, .bool true, .bool true]) Try.underlying43 el4 (by decide) (by kernel_rfl) rfl (by decide) rfl ?_))))
 intro b2 w2 hzl2 hzr2 _ hb2 hE2 ho2
 have hszq2 : w.heap.size ≤ w1.heap.size := hsz
 have hne_b1_b2 : b1 ≠ b2 := by have := hb1.lt; omega
 have hbs_b2 : w.heap.size ≤ b2 := Nat.le_trans hsz hzl2
 replace hB := below_ext hB hE2 hsz
 replace hb1 := hb1.ext hE2
 replace hty_b1 := hty_b1.ext hE2
 replace hsz := Nat.le_trans hsz hE2.size
 refine l_q (qas rfl rfl) (l_nil (r_seq (r_region' (l_o (o_buildSlice (el := 3) (cs := [vint 1, vint 1, vint 1, vint 1]) Try.underlying26 el3 (by decide) (by kernel_rfl) rfl (by decide) rfl ?_)))))
 intro b3 w3 hzl3 hzr3 _ hb3 hE3 ho3
 have hszq3 : w.heap.size ≤ w2.heap.size := hsz
 have hne_b1_b3 : b1 ≠ b3 := by have := hb1.lt; omega
 have hbs_b3 : w.heap.size ≤ b3 := Nat.le_trans hsz hzl3
 replace hB := below_ext hB hE3 hsz
 replace hb1 := hb1.ext hE3
 replace hty_b1 := hty_b1.ext hE3
 replace ho2 := own_ext ho2 hE3
 replace hsz := Nat.le_trans hsz hE3.size
 have hsb : ∀ g, (Value.slice (some ⟨b3, 0, none⟩) 4 4).ownBlock = some g → g < w3.heap.size := fun g hg => (ho3.lt g hg).2
 have hszB0 : w.heap.size ≤ w3.heap.size := hsz
 have hszB : w3.heap.size ≤ w3.heap.size := Nat.le_refl _
 refine l_q (qms rfl rfl) (l_q (q_build (v := .agg ⟨[.slice (some ⟨b2, 0, none⟩) 4 4, vint 1, vint 2]⟩) (fun w => by kernel_rfl) rfl) (l_q (qms rfl rfl) (l_q (q_build (v := .agg ⟨[.slice (some ⟨b2, 0, none⟩) 4 4, vint 1, vint 2]⟩) (fun w => by kernel_rfl) rfl) (l_o (o_buildSlice (el := 4) (cs := [.bool false, .bool true, .bool true, .bool false]) Try.underlying43 el4 (by decide) (by kernel_rfl) rfl (by decide) rfl ?_)))))
 intro b4 w4 hzl4 hzr4 _ hb4 hE4 ho4
 have hszq4 : w.heap.size ≤ w3.heap.size := hsz
 have hne_b1_b4 : b1 ≠ b4 := by have := hb1.lt; omega
 have hbs_b4 : w.heap.size ≤ b4 := Nat.le_trans hsz hzl4
 replace hB := below_ext hB hE4 hsz
 replace hb1 := hb1.ext hE4
 replace hty_b1 := hty_b1.ext hE4
 replace ho2 := own_ext ho2 hE4
 replace ho3 := own_ext ho3 hE4
 replace hszB := Nat.le_trans hszB hE4.size
 replace hsz := Nat.le_trans hsz hE4.size
 refine l_q (q_build (v := .agg ⟨[.slice (some ⟨b4, 0, none⟩) 4 4, vint 0, vint 4]⟩) (fun w => by kernel_rfl) rfl) (l_o (o_buildSlice (el := 45) (cs := [.slice (some ⟨b2, 0, none⟩) 4 4, vint 1, vint 2, .slice (some ⟨b2, 0, none⟩) 4 4, vint 1, vint 2, .slice (some ⟨b4, 0, none⟩) 4 4, vint 0, vint 4]) Try.underlying27 el45 (by decide) (by kernel_rfl) rfl (by decide) rfl ?_))
 intro b5 w5 hzl5 hzr5 _ hb5 hE5 ho5
 have hszq5 : w.heap.size ≤ w4.heap.size := hsz
 have hne_b1_b5 : b1 ≠ b5 := by have := hb1.lt; omega
 have hbs_b5 : w.heap.size ≤ b5 := Nat.le_trans hsz hzl5
 replace hB := below_ext hB hE5 hsz
 replace hb1 := hb1.ext hE5
 replace hty_b1 := hty_b1.ext hE5
 replace ho2 := own_ext ho2 hE5
 replace ho3 := own_ext ho3 hE5
 replace hszB := Nat.le_trans hszB hE5.size
 replace ho4 := own_ext ho4 hE5
 replace hsz := Nat.le_trans hsz hE5.size
 refine l_o (o_buildSlice (el := 3) (cs := [vint 2, vint (-1), vint (-1)]) Try.underlying26 el3 (by decide) (by kernel_rfl) rfl (by decide) rfl ?_)
 intro b6 w6 hzl6 hzr6 _ hb6 hE6 ho6
 have hszq6 : w.heap.size ≤ w5.heap.size := hsz
 have hne_b1_b6 : b1 ≠ b6 := by have := hb1.lt; omega
 have hbs_b6 : w.heap.size ≤ b6 := Nat.le_trans hsz hzl6
 replace hB := below_ext hB hE6 hsz
 replace hb1 := hb1.ext hE6
 replace hty_b1 := hty_b1.ext hE6
 replace ho2 := own_ext ho2 hE6
 replace ho3 := own_ext ho3 hE6
 replace hszB := Nat.le_trans hszB hE6.size
 replace ho4 := own_ext ho4 hE6
 replace ho5 := own_ext ho5 hE6
 replace hsz := Nat.le_trans hsz hE6.size
 have hszB8 := hszB
 refine l_o (o_buildSlice (el := 26) (cs := [.slice (some ⟨b6, 0, none⟩) 3 3]) Try.underlying22 el26 (by decide) (by kernel_rfl) rfl (by decide) rfl ?_)
 intro b7 w7 hzl7 hzr7 _ hb7 hE7 ho7
 have hszq7 : w.heap.size ≤ w6.heap.size := hsz
 have hne_b1_b7 : b1 ≠ b7 := by have := hb1.lt; omega
 have hbs_b7 : w.heap.size ≤ b7 := Nat.le_trans hsz hzl7
 replace hB := below_ext hB hE7 hsz
 replace hb1 := hb1.ext hE7
 replace hty_b1 := hty_b1.ext hE7
 replace ho2 := own_ext ho2 hE7
 replace ho3 := own_ext ho3 hE7
 replace hszB := Nat.le_trans hszB hE7.size
 replace ho4 := own_ext ho4 hE7
 replace ho5 := own_ext ho5 hE7
 replace ho6 := own_ext ho6 hE7
 replace hsz := Nat.le_trans hsz hE7.size
 have hos7 : OwnsI w7 w.heap.size 3 ([⟨some ⟨b6, 0, none⟩, 3, [2, (-1), (-1)]⟩] : List SV) := OwnsI.snoc (OwnsI.nil _ _ _) (own_mono ho6 (by omega))
 refine l_q (qms rfl rfl) (l_o (o_append_map (f := SV.enc) (([⟨some ⟨b6, 0, none⟩, 3, [2, (-1), (-1)]⟩] : List SV)) (([] : List SV)) Try.underlying22 el26 rfl rfl ho7 rfl (Row.nil _ _ _ _) (fun _ => rfl) (by (try simp only [List.length_append, List.length_cons, List.length_nil, List.length_take, List.length_drop, List.length_replicate]); omega) (by omega) rfl ?_))
 intro a8 c8 w8 hz8 ho8 hG8
 replace hB := below_own hB hG8 ho7 (by omega) hsz
 replace hsz := Nat.le_trans hsz hG8.size
 replace hb1 := hb1.step hG8 (own_ty_ne ho7 hty_b1 (by decide))
 replace ho2 := own_kept ho2 ho7 (by decide) hG8
 replace ho3 := own_kept ho3 ho7 (by decide) hG8
 replace hszB := Nat.le_trans hszB hG8.size
 replace ho4 := own_kept ho4 ho7 (by decide) hG8
 replace ho5 := own_kept ho5 ho7 (by decide) hG8
 replace ho6 := own_kept ho6 ho7 (by decide) hG8
 replace hty_b1 := TyAt.own hty_b1 ho7 hG8 (by decide)
 refine l_q (q_build (v := .agg ⟨[.slice (some ⟨b3, 0, none⟩) 4 4, .slice (some ⟨b5, 0, none⟩) 3 3, .slice a8 ((([⟨some ⟨b6, 0, none⟩, 3, [2, (-1), (-1)]⟩] : List SV) ++ ([] : List SV)).length) c8]⟩) (fun w => by kernel_rfl) rfl) (l_o (o_storet (vs := [.slice (some ⟨b3, 0, none⟩) 4 4, .slice (some ⟨b5, 0, none⟩) 3 3, .slice a8 ((([⟨some ⟨b6, 0, none⟩, 3, [2, (-1), (-1)]⟩] : List SV) ++ ([] : List SV)).length) c8]) (cs' := [.slice (some ⟨b3, 0, none⟩) 4 4, .slice (some ⟨b5, 0, none⟩) 3 3, .slice a8 ((([⟨some ⟨b6, 0, none⟩, 3, [2, (-1), (-1)]⟩] : List SV) ++ ([] : List SV)).length) c8]) Try.sizeOf29 rfl rfl rfl rfl hb1 (Nat.le_of_ble_eq_true rfl) rfl rfl ?_))
 intro w9 hz9 hb1 hT9 hG9
 replace hB := below_upd hB hG9 hsz (by omega)
 replace hsz : w.heap.size ≤ w9.heap.size := by rw [hz9]; exact hsz
 replace ho2 := own_ty_upd ho2 hty_b1 hG9 (by decide)
 replace ho3 := own_ty_upd ho3 hty_b1 hG9 (by decide)
 replace hszB := Nat.le_trans hszB hG9.size
 replace ho4 := own_ty_upd ho4 hty_b1 hG9 (by decide)
 replace ho5 := own_ty_upd ho5 hty_b1 hG9 (by decide)
 replace ho6 := own_ty_upd ho6 hty_b1 hG9 (by decide)
 replace ho8 := own_ty_upd ho8 hty_b1 hG9 (by decide)
 refine l_nil (r_forget [(2, .pointer _)] ⟨rfl, trivial⟩ (fun e10 => (r_ret_ (vs := [.agg _]) rfl Try.func5 rfl (.nil _) ⟨⟨_, _, rfl, run_loadVarA Try.isAgg29 Try.sizeOf29 (hb1.cells' (cs' := [_, _, _]) 0 3 rfl) rfl⟩, trivial⟩ ?_)))
 exact ⟨w3.heap.size, (some ⟨b3, 0, none⟩), 4, (some ⟨b5, 0, none⟩), 3, (some ⟨b2, 0, none⟩), 4, (some ⟨b4, 0, none⟩), 4, a8, c8, (some ⟨b6, 0, none⟩), 3, rfl, ⟨own_mono ho3 (by omega), own_mono ho5 (by omega), own_mono ho2 (by omega), own_mono ho4 (by omega), own_mono ho8 (by omega), own_mono ho6 (by omega), ⟨(fun g hg => (ho3.lt g hg).2), (fun g hg => (ho5.lt g hg).2), (fun g hg => (ho2.lt g hg).2), (fun g hg => (ho4.lt g hg).2), (fun g hg => (ho8.lt g hg).2), (fun g hg => (ho6.lt g hg).2)⟩, hsb, hszB0⟩, Ext.of_below hB⟩
theorem glass7_ret (w : World) : Ret Try.prog 7 [] w (fun v w' => ∃ ga gc, v = .agg ⟨[vint 60, .slice ga glassG.length gc]⟩ ∧ GlOwn w' w.heap.size w'.heap.size ga gc glassG ∧ Ext w w') := by
 have hB := Below.refl w.heap.size w
 have hsz : w.heap.size ≤ w.heap.size := Nat.le_refl _
 refine ret_of_runs (args := []) Try.func7 rfl (Nat.le_of_ble_eq_true rfl) (by kernel_rfl) (r_seq (r_region' (l_o (o_alloct Try.zeroValue35 rfl rfl ?_))))
 intro b1 w1 hzl1 hzr1 _ hb1 hty_b1 hE1
 have hbs_b1 : w.heap.size ≤ b1 := Nat.le_trans hsz hzl1
 replace hB := below_ext hB hE1 hsz
 replace hsz := Nat.le_trans hsz hE1.size
 refine l_nil (r_seq (r_region' (l_q (q_build (v := .agg ⟨[vint 10, vint 20]⟩) (fun w => by kernel_rfl) rfl) (l_q (q_build (v := .agg ⟨[vint 5, vint 25]⟩) (fun w => by kernel_rfl) rfl) (l_q (q_build (v := .agg ⟨[vint 0, vint 10]⟩) (fun w => by kernel_rfl) rfl) (l_q (q_build (v := .agg ⟨[vint 10, vint 15]⟩) (fun w => by kernel_rfl) rfl) (l_o (o_buildSlice (el := 41) (cs := [vint 10, vint 20, vint 5, vint 25, vint 0, vint 10, vint 10, vint 15]) Try.underlying31 el41 (by decide) (by kernel_rfl) rfl (by decide) rfl ?_))))))))
 intro b2 w2 hzl2 hzr2 _ hb2 hE2 ho2
 have hne_b1_b2 : b1 ≠ b2 := by have := hb1.lt; omega
 have hbs_b2 : w.heap.size ≤ b2 := Nat.le_trans hsz hzl2
 replace hB := below_ext hB hE2 hsz
 replace hb1 := hb1.ext hE2
 replace hty_b1 := hty_b1.ext hE2
 replace hsz := Nat.le_trans hsz hE2.size
 refine l_q (q_build (v := .agg ⟨[vint 60, .slice (some ⟨b2, 0, none⟩) 4 4]⟩) (fun w => by kernel_rfl) rfl) (l_o (o_storet (vs := [vint 60, .slice (some ⟨b2, 0, none⟩) 4 4]) (cs' := [vint 60, .slice (some ⟨b2, 0, none⟩) 4 4]) Try.sizeOf35 rfl rfl rfl rfl hb1 (Nat.le_of_ble_eq_true rfl) rfl rfl ?_))
 intro w3 hz3 hb1 hT3 hG3
 replace hB := below_upd hB hG3 hsz (by omega)
 replace hsz : w.heap.size ≤ w3.heap.size := by rw [hz3]; exact hsz
 replace ho2 := own_ty_upd ho2 hty_b1 hG3 (by decide)
 refine l_nil (r_ret_ (vs := [.agg _]) rfl Try.func7 rfl (.nil _) ⟨⟨_, _, rfl, run_loadVarA Try.isAgg35 Try.sizeOf35 (hb1.cells' (cs' := [_, _]) 0 2 rfl) rfl⟩, trivial⟩ ?_)
 exact ⟨some ⟨b2, 0, none⟩, 4, rfl, ⟨own_mono ho2 (by omega), (fun g hg => (ho2.lt g hg).2)⟩, Ext.of_below hB⟩
end Go.Proofs.Ytbikicakdkbcgaa
