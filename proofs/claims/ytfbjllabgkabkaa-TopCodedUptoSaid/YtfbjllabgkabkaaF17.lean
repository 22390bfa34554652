/- Contracts. -/
import Derived.Test.YtfbjllabgkabkaaF16
import Derived.Test.YtfbjllabgkabkaaGvB
set_option linter.unusedVariables false
set_option linter.unusedSimpArgs false
namespace Go.Proofs.Ytfbjllabgkabkaa
open Go Go.RowKit Go.Gv Go.Fl

theorem row_none {xs : List Int} {w : World} {a : Option Addr} {n c : Nat} (h : Row w a n c 1 (xs.map vint)) (ha : a.isNone = true) : xs = [] := by
  rcases h.2.2 with h0 | ⟨b, o, rfl, _⟩
  · simpa using h0
  · cases ha
def pre32 (t : List Int) (s : Sg) : Sg := if 0 < t.length then [32] ++ s else s
def addL (c : List Sg) (rd : Sg) (er : Int) : Nat → List Int → List Int → List (List Int)
  | 0, t, R => if hopeless rd er R = true then [] else if R.getD rd.length 0 ≤ er then [t] else []
  | d + 1, t, R => if hopeless rd er R = true then [] else (List.range c.length).flatMap (fun (n : Nat) => addL c rd er d (t ++ [(n : Int)]) (afL rd R (List.replicate 41 0) 32 (pre32 t (c.getD n []))))
def capN (n : Nat) : Nat → Nat
  | 0 => 1
  | d + 1 => n * capN n d
theorem addFlat_len {f : Nat → List (List Int)} {p : Nat} (h : ∀ n, (f n).length ≤ p) : ∀ k, ((List.range k).flatMap f).length ≤ k * p
  | 0 => by simp
  | k + 1 => by
    have := addFlat_len h k
    rw [List.range_succ, List.flatMap_append, List.length_append, Nat.succ_mul]
    have h2 := h k
    simp only [List.flatMap_cons, List.flatMap_nil, List.append_nil]
    omega
theorem addL_len (c : List Sg) (rd : Sg) (er : Int) : ∀ (d : Nat) (t R : List Int), (addL c rd er d t R).length ≤ capN c.length d
  | 0, t, R => by
    unfold addL capN
    repeat' split
    all_goals simp
  | d + 1, t, R => by
    unfold addL capN
    split
    · simp
    · exact addFlat_len (fun n => addL_len c rd er d _ _) _
theorem afL_len (rd : Sg) (R : List Int) (hR : R.length = 41) : ∀ (B : List Int) (la : UInt8) (s : Sg), (afL rd R B la s).length = 41 := by
  intro B la s
  induction s generalizing R B la with
  | nil => exact hR
  | cons x s ih => exact ih _ (so_len _ _ _ _ _ _) _ _
theorem afL_b (rd : Sg) : ∀ (s : Sg) (R B : List Int) (la : UInt8) (_ : ∀ i, 0 ≤ R.getD i 0 ∧ R.getD i 0 ≤ 1048576) (_ : ∀ i, 0 ≤ B.getD i 0 ∧ B.getD i 0 ≤ 1048576), ∀ i, 0 ≤ (afL rd R B la s).getD i 0 ∧ (afL rd R B la s).getD i 0 ≤ 1048576
  | [], _, _, _, h, _ => h
  | _ :: s, _, _, _, h, h' => afL_b rd s _ _ _ (so_b h h' _ _ _) h
structure AK where
  w0 : World
  a : Option Addr
  cc : Nat
  c : List Sg
  rd : Sg
  er : Int
  d : Nat
  bt : Nat
  bl : Nat
  bo : Nat
  ba : Nat
  B : Nat
  ta : Option Addr
  tc : Nat
  t : List Int
  R : List Int
  oa : Option Addr
  oc : Nat
  L : List SV
def AK.S (K : AK) : Nat → Prop := fun k => k = K.bo ∨ K.oa.map (·.block) = some k ∨ K.ta.map (·.block) = some k
structure AddH (K : AK) (w : World) : Prop where
  row : Row K.w0 K.a K.c.length K.cc 1 (K.c.map vstr)
  b0 : Below K.w0.heap.size K.w0 w
  o1 : K.w0.heap.size ≤ K.bt
  o2 : K.bt < K.bl
  o3 : K.bl < K.bo
  o4 : K.bo < K.ba
  o5 : K.ba < K.B
  o6 : K.B ≤ w.heap.size
  bt : Blk w K.bt [.slice K.a K.c.length K.cc, vstr K.rd, vint K.er]
  bl : Blk w K.bl [vint ((K.t.length + K.d : Nat) : Int)]
  ba : Blk w K.ba [.func (.func 63) ⟨[]⟩ ⟨[ptr K.bt 0, ptr K.bl 0, ptr K.bo 0, ptr K.ba 0]⟩]
  cell : Blk w K.bo [.slice K.oa K.L.length K.oc]
  out : w.ownsRow K.B 26 1 (.slice K.oa K.L.length K.oc) K.L.length (K.L.map SV.enc)
  text : w.ownsRow K.B 3 1 (.slice K.ta K.t.length K.tc) K.t.length (K.t.map vint)
  cap : K.L.length + capN K.c.length K.d ≤ 1073741824
  cn : K.c.length ≤ 2097152
  cl : ∀ s ∈ K.c, s.length ≤ 4
  rdl : K.rd.length ≤ 40
  Rl : K.R.length = 41
  Rb : ∀ i, 0 ≤ K.R.getD i 0 ∧ K.R.getD i 0 ≤ 1048576
  tl : K.t.length + K.d ≤ 2097152
structure AddI (K : AK) (w : World) (oa1 : Option Addr) (oc1 : Nat) (L2 : List SV) (wc : World) : Prop where
  b0 : Below K.w0.heap.size K.w0 wc
  bt : Blk wc K.bt [.slice K.a K.c.length K.cc, vstr K.rd, vint K.er]
  bl : Blk wc K.bl [vint ((K.t.length + K.d : Nat) : Int)]
  ba : Blk wc K.ba [.func (.func 63) ⟨[]⟩ ⟨[ptr K.bt 0, ptr K.bl 0, ptr K.bo 0, ptr K.ba 0]⟩]
  cell : Blk wc K.bo [.slice oa1 (K.L ++ L2).length oc1]
  out : wc.ownsRow K.B 26 1 (.slice oa1 (K.L ++ L2).length oc1) (K.L ++ L2).length ((K.L ++ L2).map SV.enc)
  rows : OwnsI wc w.heap.size 3 L2
  text : wc.ownsRow K.B 3 1 (.slice K.ta K.t.length K.tc) K.t.length (K.t.map vint)
  fr : FrS K.S w wc
  ob : ∀ g, oa1.map (·.block) = some g → K.oa.map (·.block) = some g ∨ w.heap.size ≤ g
  base : K.B ≤ wc.heap.size
def AddP (K : AK) (w : World) (v : Value) (w' : World) : Prop := ∃ oa' oc' L2, L2.map (·.xs) = addL K.c K.rd K.er K.d K.t K.R ∧ AddI K w oa' oc' L2 w' ∧ v = .tuple ⟨[]⟩
theorem AddI.ext {K : AK} {w wc wc' : World} {oa1 : Option Addr} {oc1 : Nat} {L2 : List SV} (h : AddI K w oa1 oc1 L2 wc) (hE : Ext wc wc') : AddI K w oa1 oc1 L2 wc' :=
  ⟨below_ext h.b0 hE h.b0.size, h.bt.ext hE, h.bl.ext hE, h.ba.ext hE, h.cell.ext hE, own_ext h.out hE, h.rows.ext hE, own_ext h.text hE, h.fr.ext hE, h.ob, Nat.le_trans h.base hE.size⟩
theorem AddI.start {K : AK} {w w1 : World} (hH : AddH K w) (hE : Ext w w1) : AddI K w1 K.oa K.oc [] w1 :=
  ⟨below_ext hH.b0 hE hH.b0.size, hH.bt.ext hE, hH.bl.ext hE, hH.ba.ext hE, by rw [List.append_nil]; exact hH.cell.ext hE, by rw [List.append_nil]; exact own_ext hH.out hE, OwnsI.nil _ _ _, own_ext hH.text hE, FrS.refl _ _, fun _ h => .inl h, Nat.le_trans hH.o6 hE.size⟩
theorem AddI.rebase {K : AK} {w w1 wc : World} {oa1 : Option Addr} {oc1 : Nat} {L2 : List SV} (h : AddI K w1 oa1 oc1 L2 wc) (hE : Ext w w1) : AddI K w oa1 oc1 L2 wc :=
  ⟨h.b0, h.bt, h.bl, h.ba, h.cell, h.out, h.rows.mono hE.size, h.text, (FrS.of_ext _ hE).trans h.fr (fun _ _ h => h), fun g hg => (h.ob g hg).imp id (fun h => Nat.le_trans hE.size h), h.base⟩
theorem AddH.tlt {K : AK} {w : World} (hH : AddH K w) {g : Nat} (hg : K.ta.map (·.block) = some g) : K.B ≤ g ∧ g < w.heap.size := hH.text.lt g (by rw [ob_slice]; exact hg)
theorem AddH.olt {K : AK} {w : World} (hH : AddH K w) {g : Nat} (hg : K.oa.map (·.block) = some g) : K.B ≤ g ∧ g < w.heap.size := hH.out.lt g (by rw [ob_slice]; exact hg)
theorem own_pre1 {w : World} {base e g c : Nat} {t : List Int} {n : Int} (h : w.ownsRow base e 1 (.slice (some ⟨g, 0, none⟩) (t ++ [n]).length c) (t ++ [n]).length ((t ++ [n]).map vint)) : w.ownsRow base e 1 (.slice (some ⟨g, 0, none⟩) t.length c) t.length (t.map vint) := by
  rw [List.map_append, List.length_append] at h
  exact own_prefix h (by simp) (fun h => by cases h)
theorem AddI.app {K : AK} {w w1 wa wb : World} {oa1 : Option Addr} {oc1 g c' : Nat} {L2 : List SV} {n : Int} (h : AddI K w1 oa1 oc1 L2 wa) (hH : AddH K w) (hs1 : w.heap.size ≤ w1.heap.size)
    (ho : wb.ownsRow K.B 3 1 (.slice (some ⟨g, 0, none⟩) (K.t ++ [n]).length c') (K.t ++ [n]).length ((K.t ++ [n]).map vint)) (hd : Two K.ta K.tc g c' wa wb) : AddI K w1 oa1 oc1 L2 wb := by
  have hG := two_grown (n := K.t.length) hd
  rcases hd with ⟨ha, hc, hg, hl⟩ | ⟨hE, _⟩
  · have hgb : K.B ≤ g ∧ g < w.heap.size := hH.tlt (by rw [ha]; rfl)
    have o1 := hH.o1; have o2 := hH.o2; have o3 := hH.o3; have o4 := hH.o4; have o5 := hH.o5
    refine ⟨below_upd h.b0 hg h.b0.size (by omega), h.bt.upd hg (by omega), h.bl.upd hg (by omega), h.ba.upd hg (by omega), h.cell.upd hg (by omega), own_kept h.out h.text (by decide) hG, fun s hs => ?_, ?_, h.fr.grown hg (fun k hk _ => .inr (.inr (by rw [ha]; exact hk))), h.ob, Nat.le_trans h.base hg.size⟩
    · refine own_keepB (h.rows s hs) fun b hb => hg.block b ((h.rows s hs).lt b hb).2 (fun he => ?_)
      have := ((h.rows s hs).lt b hb).1
      cases he; omega
    · rw [ha, hc]; exact own_pre1 ho
  · exact h.ext hE
def TD (K : AK) (w1 : World) (L2 : List SV) (g c' : Nat) : Prop :=
  (K.ta = some ⟨g, 0, none⟩ ∧ K.tc = c') ∨ (w1.heap.size ≤ g ∧ (∀ s ∈ L2, ∀ b, s.enc.ownBlock = some b → b < g) ∧ (∀ b, K.ta.map (·.block) = some b → b < g))
theorem TD.of {K : AK} {w1 wa wb : World} {oa1 : Option Addr} {oc1 g c' : Nat} {L2 : List SV} (h : AddI K w1 oa1 oc1 L2 wa) (hd : Two K.ta K.tc g c' wa wb) : TD K w1 L2 g c' := by
  rcases hd with ⟨ha, hc, _⟩ | ⟨_, hg⟩
  · exact .inl ⟨ha, hc⟩
  · refine .inr ⟨Nat.le_trans h.fr.size hg, fun s hs b hb => ?_, fun b hb => ?_⟩
    · have := ((h.rows s hs).lt b hb).2; omega
    · have := (h.text.lt b (by rw [ob_slice]; exact hb)).2; omega
theorem add_cap {l n p k l2 M : Nat} (h : l + n * p ≤ M) (h2 : l2 ≤ k * p) (hk : k < n) : l + l2 + p ≤ M := by
  have := Nat.mul_le_mul_right p hk
  rw [Nat.succ_mul] at this
  omega
theorem AddI.childH {K : AK} {w w1 wc : World} {oa1 : Option Addr} {oc1 g c' dd k : Nat} {L2 : List SV} {n : Int} {R2 : List Int} (h : AddI K w1 oa1 oc1 L2 wc) (hH : AddH K w) (hdd : K.d = dd + 1)
    (ho : wc.ownsRow K.B 3 1 (.slice (some ⟨g, 0, none⟩) (K.t ++ [n]).length c') (K.t ++ [n]).length ((K.t ++ [n]).map vint)) (hlen : L2.length ≤ k * capN K.c.length dd) (hk : k < K.c.length) (hR : R2.length = 41)
    (hRb : ∀ i, 0 ≤ R2.getD i 0 ∧ R2.getD i 0 ≤ 1048576) : AddH { K with d := dd, t := K.t ++ [n], ta := some ⟨g, 0, none⟩, tc := c', R := R2, oa := oa1, oc := oc1, L := K.L ++ L2 } wc := by
  have hcap := hH.cap
  have htl := hH.tl
  rw [hdd] at hcap htl
  refine ⟨hH.row, h.b0, hH.o1, hH.o2, hH.o3, hH.o4, hH.o5, h.base, h.bt, ?_, h.ba, h.cell, h.out, ho, ?_, hH.cn, hH.cl, hH.rdl, hR, hRb, by simp only [List.length_append, List.length_cons, List.length_nil]; omega⟩
  · have hb := h.bl
    have he : (K.t ++ [n]).length + dd = K.t.length + K.d := by rw [hdd]; simp; omega
    show Blk wc K.bl [vint (((K.t ++ [n]).length + dd : Nat) : Int)]
    rw [he]; exact hb
  · show (K.L ++ L2).length + capN K.c.length dd ≤ _
    rw [List.length_append]
    exact add_cap hcap hlen hk
theorem notS {K : AK} {w w1 wc : World} {oa1 : Option Addr} {oc1 g c' b : Nat} {L2 : List SV} (h : AddI K w1 oa1 oc1 L2 wc) (hH : AddH K w) (hTD : TD K w1 L2 g c') (hb : w.heap.size ≤ b) (hb1 : b < w1.heap.size) :
    ¬ (b = K.bo ∨ oa1.map (·.block) = some b ∨ (some ⟨g, 0, none⟩ : Option Addr).map (·.block) = some b) := by
  have o4 := hH.o4; have o5 := hH.o5; have o6 := hH.o6
  rintro (h1 | h1 | h1)
  · omega
  · rcases h.ob b h1 with h2 | h2
    · have := hH.olt h2; omega
    · omega
  · obtain rfl : g = b := by simpa using h1
    rcases hTD with ⟨h2, _⟩ | ⟨h2, _⟩
    · have := hH.tlt (g := g) (by rw [h2]; rfl); omega
    · omega
theorem AddI.back {K : AK} {w w1 wc w' : World} {oa1 oa3 : Option Addr} {oc1 oc3 g c' dd : Nat} {L2 L3 : List SV} {n : Int} {R2 : List Int} (h : AddI K w1 oa1 oc1 L2 wc) (hH : AddH K w) (hs1 : w.heap.size ≤ w1.heap.size) (hTD : TD K w1 L2 g c') (hdd : K.d = dd + 1)
    (hC : AddI { K with d := dd, t := K.t ++ [n], ta := some ⟨g, 0, none⟩, tc := c', R := R2, oa := oa1, oc := oc1, L := K.L ++ L2 } wc oa3 oc3 L3 w') : AddI K w1 oa3 oc3 (L2 ++ L3) w' := by
  have o1 := hH.o1; have o2 := hH.o2; have o3 := hH.o3; have o4 := hH.o4; have o5 := hH.o5; have o6 := hH.o6
  refine ⟨hC.b0, hC.bt, ?_, hC.ba, ?_, ?_, ?_, ?_, ?_, ?_, hC.base⟩
  · have hb := hC.bl
    have he : (K.t ++ [n]).length + dd = K.t.length + K.d := by rw [hdd]; simp; omega
    have hb' : Blk w' K.bl [vint (((K.t ++ [n]).length + dd : Nat) : Int)] := hb
    rw [he] at hb'; exact hb'
  · have := hC.cell; rw [← List.append_assoc]; exact this
  · have := hC.out; rw [← List.append_assoc]; exact this
  · refine OwnsI.append (h.rows.frS hC.fr fun s hs b hb => ?_) (hC.rows.mono h.fr.size)
    have hge := ((h.rows s hs).lt b hb).1
    rintro (h1 | h1 | h1)
    · have h1' : b = K.bo := h1
      omega
    · exact h.rows.ne h.out (by decide) s hs b hb (by rw [ob_slice]; exact h1)
    · obtain rfl : g = b := by simpa using h1
      rcases hTD with ⟨h2, _⟩ | ⟨_, h2, _⟩
      · have := hH.tlt (g := g) (by rw [h2]; rfl); omega
      · have := h2 s hs g hb; omega
  · rcases hTD with ⟨h2, h3⟩ | ⟨h2, h3, h4⟩
    · rw [h2, h3]; exact own_pre1 hC.text
    · refine own_frS h.text hC.fr fun b hb => ?_
      rw [ob_slice] at hb
      have hbl := hH.tlt hb
      rintro (h1 | h1 | h1)
      · have h1' : b = K.bo := h1
        omega
      · rcases own_other h.text h.out (by decide) with h5 | h5
        · rw [ob_slice, hb] at h5; cases h5
        · rw [ob_slice, ob_slice, hb] at h5; exact h5 h1.symm
      · obtain rfl : g = b := by simpa using h1
        have := h4 g hb; omega
  · refine h.fr.trans hC.fr fun k hk hS => ?_
    rcases hS with h1 | h1 | h1
    · exact .inl h1
    · rcases h.ob k h1 with h2 | h2
      · exact .inr (.inl h2)
      · omega
    · obtain rfl : g = k := by simpa using h1
      rcases hTD with ⟨h2, _⟩ | ⟨h2, _⟩
      · exact .inr (.inr (by rw [h2]; rfl))
      · omega
  · intro b hb
    rcases hC.ob b hb with h1 | h1
    · exact h.ob b h1
    · exact .inr (Nat.le_trans h.fr.size h1)
theorem AddI.leaf {K : AK} {w w1 wa wb wc : World} {g c' : Nat} {s : SV} (hH : AddH K w) (hE : Ext w w1) (h : AddI K w1 K.oa K.oc [] wa) (hs : wa.ownsRow w.heap.size 3 1 s.enc s.xs.length (s.xs.map vint))
    (ho : wb.ownsRow K.B 26 1 (.slice (some ⟨g, 0, none⟩) (K.L ++ [] ++ [s]).length c') (K.L ++ [] ++ [s]).length ((K.L ++ [] ++ [s]).map SV.enc)) (hd : Two K.oa K.oc g c' wa wb)
    (hc : Blk wc K.bo [.slice (some ⟨g, 0, none⟩) (K.L ++ [] ++ [s]).length c']) (hG : wb.grownBy wc (some K.bo)) : AddI K w (some ⟨g, 0, none⟩) c' [s] wc := by
  have o1 := hH.o1; have o2 := hH.o2; have o3 := hH.o3; have o4 := hH.o4; have o5 := hH.o5; have o6 := hH.o6
  have hw1 := hE.size
  have hG2 := two_grown (n := (K.L ++ []).length) hd
  have hgb := own_block_ge ho (g := g) rfl
  have hgl : K.oa = some ⟨g, 0, none⟩ → g < w.heap.size := fun ha => (hH.olt (by rw [ha]; rfl)).2
  have hne : ∀ b, b < K.B → K.oa = some ⟨g, 0, none⟩ → b ≠ g := fun b hb _ => by omega
  rw [List.append_nil] at ho hc
  refine ⟨?_, (two_blk hd h.bt (hne _ (by omega))).upd hG (by omega), (two_blk hd h.bl (hne _ (by omega))).upd hG (by omega), (two_blk hd h.ba (hne _ (by omega))).upd hG (by omega), hc, own_updlt ho hG (by omega), ?_, ?_, ?_, ?_, ?_⟩
  · have hb : Below K.w0.heap.size K.w0 wb := by
      rcases hd with ⟨_, _, hg, _⟩ | ⟨hE2, _⟩
      · exact below_upd h.b0 hg h.b0.size (by omega)
      · exact below_ext h.b0 hE2 h.b0.size
    exact below_upd hb hG hb.size (by omega)
  · intro s' hs'
    obtain rfl : s' = s := by simpa using hs'
    have : wb.ownsRow w.heap.size 3 1 s'.enc s'.xs.length (s'.xs.map vint) := by
      rcases hd with ⟨ha, _, hg, _⟩ | ⟨hE2, _⟩
      · exact own_updlt hs hg (hgl ha)
      · exact own_ext hs hE2
    exact own_updlt this hG (by omega)
  · exact own_updlt (own_kept h.text h.out (by decide) hG2) hG (by omega)
  · have h1 : FrS K.S w wa := (FrS.of_ext _ hE).trans h.fr (fun _ _ h => h)
    have h2 : FrS K.S w wb := by
      rcases hd with ⟨ha, _, hg, _⟩ | ⟨hE2, _⟩
      · exact h1.grown hg (fun k hk _ => .inr (.inl (by rw [ha]; exact hk)))
      · exact h1.ext hE2
    exact h2.grown hG (fun k hk _ => .inl (Option.some.inj hk).symm)
  · intro b hb
    obtain rfl : g = b := by simpa using hb
    rcases hd with ⟨ha, _⟩ | ⟨_, hg⟩
    · exact .inl (by rw [ha]; rfl)
    · right
      have := h.fr.size
      omega
  · have := h.base; have := hG2.size; have := hG.size; omega
theorem addL_hop {c : List Sg} {rd : Sg} {er : Int} {d : Nat} {t R : List Int} (h : hopeless rd er R = true) : addL c rd er d t R = [] := by
  cases d <;> (unfold addL; rw [if_pos h])
theorem flat_snoc {A B : List SV} {f : Nat → List (List Int)} {k : Nat} (hA : A.map (·.xs) = (List.range k).flatMap f) (hB : B.map (·.xs) = f k) : (A ++ B).map (·.xs) = (List.range (k + 1)).flatMap f := by
  rw [List.map_append, hA, hB, List.range_succ, List.flatMap_append]
  simp

theorem el26 : Elem Try.prog 26 (.slice none 0 0) 1 24 := elem_of (by kernel_rfl) rfl (by decide)
theorem fld82_0 (w : World) (b o : Nat) : (Instr.fieldAt 82 (ptr b o) 0).run Try.prog w = .ok (ptr b (o + 0)) w := by
  simp [Instr.fieldAt, run_underlying Try.underlying82, fieldPlace, Instr.sureAddr, Try.sizeOf58, Addr.add_lit]
theorem clone_ret (xa : Option Addr) (xc : Nat) (xs : List Int) (w : World) (hx : Row w xa xs.length xc 1 (xs.map vint)) (hxn : xs.length ≤ 2097152) : Ret Try.prog 39 [.slice xa xs.length xc] w (fun v w' => ∃ ra0 rc0, v = .slice ra0 (xs).length rc0 ∧ w'.ownsRow w.heap.size 3 1 (.slice ra0 (xs).length rc0) (xs).length ((xs).map vint) ∧ Ext w w') := by
  have hB := Below.refl w.heap.size w
  have hsz : w.heap.size ≤ w.heap.size := Nat.le_refl _
  refine ret_of_runs (args := [_]) Try.func39 rfl (Nat.le_of_ble_eq_true rfl) (by kernel_rfl) ?_
  refine r_seq ?_
  refine r_region' ?_
  refine l_q (q_assign (v := .slice _ _ _) rfl rfl) ?_
  refine l_nil ?_
  refine r_forget [(0, .slice _ _ _)] ⟨rfl, trivial⟩ (fun e1 => ?_)
  refine r_seq ?_
  refine r_seq ?_
  refine r_region' ?_
  refine l_q (q_move (v := .slice _ _ _) rfl rfl) ?_
  refine l_q (q_eql_nil Try.underlying26 rfl rfl rfl) ?_
  refine l_nil ?_
  refine r_forget [(0, .slice _ _ _), (4, .bool _)] ⟨rfl, rfl, trivial⟩ (fun e2 => ?_)
  refine r_cond rfl (fun hc3 => ?_) (fun hc3 => ?_)
  · skip
    try simp only [decide_eq_true_eq, decide_eq_false_iff_not, Bool.not_eq_true', Bool.not_eq_false', Bool.not_not, Bool.not_true, Bool.not_false, Bool.not_eq_true, Bool.not_eq_false, Int.not_lt, Int.not_le, Bool.and_eq_true, Bool.or_eq_true, Bool.and_eq_false_iff, Bool.or_eq_false_iff] at hc3
    have hx0 : xs = [] := row_none (hx.below hB) hc3
    subst hx0
    refine r_seq ?_
    refine r_region' ?_
    refine l_q (q_assign (v := .slice _ _ _) rfl rfl) ?_
    refine l_nil ?_
    refine r_forget [(2, .slice _ _ _)] ⟨rfl, trivial⟩ (fun e4 => ?_)
    refine r_ret_ (vs := [.slice _ _ _]) rfl Try.func39 rfl (.nil _) ⟨rfl, trivial⟩ ?_
    exact ⟨_, _, rfl, World.ownsRow_nil _ _ _ _, Ext.of_below hB⟩
  · skip
    try simp only [decide_eq_true_eq, decide_eq_false_iff_not, Bool.not_eq_true', Bool.not_eq_false', Bool.not_not, Bool.not_true, Bool.not_false, Bool.not_eq_true, Bool.not_eq_false, Int.not_lt, Int.not_le, Bool.and_eq_true, Bool.or_eq_true, Bool.and_eq_false_iff, Bool.or_eq_false_iff] at hc3
    refine r_skip ?_
    refine r_seq ?_
    refine r_region' ?_
    refine l_o (o_buildSlice (el := 3) (cs := []) Try.underlying26 el3 (by decide) (by kernel_rfl) rfl (by decide) rfl ?_)
    intro b5 w5 hzl5 hzr5 _ hb5 hE5 ho5
    have hbs_b5 : w.heap.size ≤ b5 := Nat.le_trans hsz hzl5
    replace hB := below_ext hB hE5 hsz
    replace hsz := Nat.le_trans hsz hE5.size
    refine l_q (q_move (v := .slice _ _ _) rfl rfl) ?_
    refine l_o (o_append_map (f := vint) ([]) (xs) Try.underlying26 el3 rfl rfl ho5 rfl (hx.below hB) (fun _ => rfl) (by (try simp only [List.length_append, List.length_cons, List.length_nil, List.length_take, List.length_drop, List.length_replicate]); omega) (by omega) rfl ?_)
    intro a6 c6 w6 hz6 ho6 hG6
    replace hB := below_own hB hG6 ho5 (by omega) hsz
    replace hsz := Nat.le_trans hsz hG6.size
    refine l_q (q_assign (v := .slice _ _ _) rfl rfl) ?_
    refine l_nil ?_
    refine r_forget [(2, .slice _ _ _)] ⟨rfl, trivial⟩ (fun e7 => ?_)
    refine r_ret_ (vs := [.slice _ _ _]) rfl Try.func39 rfl (.nil _) ⟨rfl, trivial⟩ ?_
    exact ⟨_, _, rfl, ho6, Ext.of_below hB⟩
theorem add_step (d : Nat) (K : AK) (w : World) (hKd : K.d = d) (hH : AddH K w) (ih : ∀ dd, d = dd + 1 → ∀ (w1 : World) (K1 : AK), K1.d = dd → AddH K1 w1 → Ret Try.prog 63 [.slice K1.ta K1.t.length K1.tc, .agg ⟨K1.R.map vint⟩, ptr K1.bt 0, ptr K1.bl 0, ptr K1.bo 0, ptr K1.ba 0] w1 (AddP K1 w1)) : Ret Try.prog 63 [.slice K.ta K.t.length K.tc, .agg ⟨(K.R).map vint⟩, ptr K.bt 0, ptr K.bl 0, ptr K.bo 0, ptr K.ba 0] w (fun v w' => AddP K w v w') := by
  have hRl := hH.Rl
  have hrdl := hH.rdl
  have hcn := hH.cn
  have htl := hH.tl
  have ho1 := hH.o1
  have ho2 := hH.o2
  have ho3 := hH.o3
  have ho4 := hH.o4
  have ho5 := hH.o5
  have ho6 := hH.o6
  have hsz : w.heap.size ≤ w.heap.size := Nat.le_refl _
  refine ret_of_runs (args := [_, _, _, _, _, _]) Try.func63 rfl (Nat.le_of_ble_eq_true rfl) (by kernel_rfl) ?_
  refine r_seq ?_
  refine r_region' ?_
  refine l_o (o_box rfl rfl rfl ?_)
  intro b1 w1 hzl1 hzr1 _ hb1 hE1
  have hbs_b1 : w.heap.size ≤ b1 := Nat.le_trans hsz hzl1
  replace hsz := Nat.le_trans hsz hE1.size
  refine l_nil ?_
  refine r_forget [(0, .slice _ _ _), (2, .pointer _), (3, .pointer _), (4, .pointer _), (5, .pointer _), (7, .pointer _)] ⟨rfl, rfl, rfl, rfl, rfl, rfl, trivial⟩ (fun e2 => ?_)
  refine r_seq ?_
  refine r_seq ?_
  have hI := AddI.start hH hE1
  have hs1 := hE1.size
  refine r_region' ?_
  refine l_q (q_load_agg (n := 3) Try.isAgg82 Try.sizeOf82 rfl ((hI.bt.cells' (cs' := [_, _, _]) 0 3 rfl)) rfl rfl) ?_
  refine l_q (q_load_agg (n := 41) Try.isAgg101 Try.sizeOf101 rfl ((hb1.cells0)) (by rw [List.length_map]; assumption) rfl) ?_
  refine l_o (o_call Try.call64 rfl (hopeless_ret K.a K.cc K.c K.rd K.er K.R _ (hH.row.below hI.b0) hcn hrdl hRl) rfl ?_)
  rintro _ w3 ⟨rfl, hE3⟩
  replace hb1 := hb1.ext hE3
  replace hI := hI.ext hE3
  replace hsz := Nat.le_trans hsz hE3.size
  refine l_nil ?_
  refine r_forget [(0, .slice _ _ _), (2, .pointer _), (3, .pointer _), (4, .pointer _), (5, .pointer _), (7, .pointer _), (12, .bool _)] ⟨rfl, rfl, rfl, rfl, rfl, rfl, rfl, trivial⟩ (fun e4 => ?_)
  refine r_cond rfl (fun hc5 => ?_) (fun hc5 => ?_)
  · skip
    try simp only [decide_eq_true_eq, decide_eq_false_iff_not, Bool.not_eq_true', Bool.not_eq_false', Bool.not_not, Bool.not_true, Bool.not_false, Bool.not_eq_true, Bool.not_eq_false, Int.not_lt, Int.not_le, Bool.and_eq_true, Bool.or_eq_true, Bool.and_eq_false_iff, Bool.or_eq_false_iff] at hc5
    have hho := hc5
    refine r_ret_ (vs := []) rfl Try.func63 rfl (.nil _) trivial ?_
    exact ⟨_, _, [], (by rw [List.map_nil]; exact (addL_hop hho).symm), hI.rebase hE1, rfl⟩
  · skip
    try simp only [decide_eq_true_eq, decide_eq_false_iff_not, Bool.not_eq_true', Bool.not_eq_false', Bool.not_not, Bool.not_true, Bool.not_false, Bool.not_eq_true, Bool.not_eq_false, Int.not_lt, Int.not_le, Bool.and_eq_true, Bool.or_eq_true, Bool.and_eq_false_iff, Bool.or_eq_false_iff] at hc5
    have hho := hc5
    refine r_skip ?_
    refine r_seq ?_
    refine r_seq ?_
    refine r_region' ?_
    refine l_q (q_move (v := .slice _ _ _) rfl rfl) ?_
    refine l_q (q_len rfl Try.underlying26 rfl rfl) ?_
    refine l_q (q_load Try.isAgg3 rfl ((hI.bl.has (o := 0) rfl)) rfl) ?_
    refine l_q (q_eql rfl rfl rfl) ?_
    refine l_nil ?_
    refine r_forget [(0, .slice _ _ _), (2, .pointer _), (4, .pointer _), (5, .pointer _), (7, .pointer _), (16, .bool _)] ⟨rfl, rfl, rfl, rfl, rfl, rfl, trivial⟩ (fun e6 => ?_)
    refine r_cond rfl (fun hc7 => ?_) (fun hc7 => ?_)
    · skip
      try simp only [decide_eq_true_eq, decide_eq_false_iff_not, Bool.not_eq_true', Bool.not_eq_false', Bool.not_not, Bool.not_true, Bool.not_false, Bool.not_eq_true, Bool.not_eq_false, Int.not_lt, Int.not_le, Bool.and_eq_true, Bool.or_eq_true, Bool.and_eq_false_iff, Bool.or_eq_false_iff] at hc7
      have hd0 : K.d = 0 := by omega
      refine r_seq ?_
      refine r_seq ?_
      refine r_draw ext_refl' ext_trans' [0, 1, 2, 3, 4, 5, 6, 7] [] 2 (by kernel_rfl) (by kernel_rfl) ?_
      intro w8 _ hE8
      replace hb1 := hb1.ext hE8
      replace hI := hI.ext hE8
      replace hsz := Nat.le_trans hsz hE8.size
      refine m_q rfl rfl (fun w' hC' => q_fieldAddr (o' := 1) rfl fld82_1 rfl) ?_
      refine m_q rfl rfl (fun w' hC' => q_load Try.isAgg9 rfl (((hI.bt.step hC' (by first | exact (fun h => by cases h) | exact (fun h => by have := hH.text.lt _ h.symm; omega))).has (o := 1) rfl)) rfl) ?_
      refine m_q rfl rfl (fun w' hC' => q_len_str rfl Try.underlying9 rfl rfl) ?_
      refine m_q rfl rfl (fun w' hC' => (q_indexAddr_arr1 Try.underlying101 Try.sizeOf3 rfl rfl (by omega) rfl).cast (ptr0 _ _)) ?_
      refine m_q rfl rfl (fun w' hC' => q_load Try.isAgg3 rfl (((hb1.step hC' (by first | exact (fun h => by cases h) | exact (fun h => by have := hH.text.lt _ h.symm; omega))).has (o := ((K.rd).length : Int).toNat) (imap (by omega)))) rfl) ?_
      refine m_q rfl rfl (fun w' hC' => q_fieldAddr (o' := 2) rfl fld82_2 rfl) ?_
      refine m_q rfl rfl (fun w' hC' => q_load Try.isAgg3 rfl (((hI.bt.step hC' (by first | exact (fun h => by cases h) | exact (fun h => by have := hH.text.lt _ h.symm; omega))).has (o := 2) rfl)) rfl) ?_
      refine m_q rfl rfl (fun w' hC' => q_leq rfl rfl rfl) ?_
      refine m_nil ?_
      refine r_forget [(0, .slice _ _ _), (4, .pointer _), (24, .bool _)] ⟨rfl, rfl, rfl, trivial⟩ (fun e9 => ?_)
      refine r_cond rfl (fun hc10 => ?_) (fun hc10 => ?_)
      · skip
        try simp only [decide_eq_true_eq, decide_eq_false_iff_not, Bool.not_eq_true', Bool.not_eq_false', Bool.not_not, Bool.not_true, Bool.not_false, Bool.not_eq_true, Bool.not_eq_false, Int.not_lt, Int.not_le, Bool.and_eq_true, Bool.or_eq_true, Bool.and_eq_false_iff, Bool.or_eq_false_iff] at hc10
        have hle := hc10
        refine r_draw ext_refl' ext_trans' [0, 1, 2, 3, 4, 5] [2, 3, 4, 5, 1004, 1005] 2 (by kernel_rfl) (by kernel_rfl) ?_
        intro w11 _ hE11
        replace hb1 := hb1.ext hE11
        replace hI := hI.ext hE11
        replace hsz := Nat.le_trans hsz hE11.size
        refine m_q rfl rfl (fun w' hC' => q_load Try.isAgg55 rfl (((hI.cell.step hC' (by first | exact (fun h => by cases h) | exact (fun h => by have := hH.text.lt _ h.symm; omega))).has (o := 0) rfl)) rfl) ?_
        refine m_q rfl rfl (fun w' hC' => q_move (v := .slice _ _ _) rfl rfl) ?_
        refine m_o rfl rfl (o_call Try.call39 rfl (clone_ret _ _ K.t _ (Row.of_owns hI.text) (by omega)) rfl ?_)
        rintro _ w12 ⟨a12_0, c12_0, rfl, ho12_0, hE12⟩
        replace ho12_0 := own_mono ho12_0 (show w.heap.size ≤ _ by omega)
        refine ⟨(grown_of_ext _ hE12), ?_⟩
        replace hb1 := hb1.ext hE12
        replace hI := hI.ext hE12
        replace hsz := Nat.le_trans hsz hE12.size
        refine m_o rfl rfl (o_buildSlice (el := 26) (cs := [.slice a12_0 ((K.t).length) c12_0]) Try.underlying55 el26 (by decide) (by kernel_rfl) rfl (by decide) rfl ?_)
        intro b13 w13 hzl13 hzr13 _ hb13 hE13 ho13
        refine ⟨(grown_of_ext _ hE13), ?_⟩
        have hbs_b13 : w.heap.size ≤ b13 := Nat.le_trans hsz hzl13
        replace hb1 := hb1.ext hE13
        replace hI := hI.ext hE13
        replace ho12_0 := own_ext ho12_0 hE13
        replace hsz := Nat.le_trans hsz hE13.size
        have hIa := hI
        refine m_last rfl rfl rfl (o_append_two (f := SV.enc) (K.L ++ []) (⟨a12_0, c12_0, K.t⟩ : SV) Try.underlying55 el26 rfl rfl hI.out rfl hb13 rfl (by have := hH.cap; rw [hd0] at this; simp only [capN, List.append_nil] at *; omega) hI.base rfl ?_)
        intro g29 c29 w29 hz29 ho29 hd29
        replace hsz := Nat.le_trans hsz hz29
        have hc29 := two_blk hd29 hIa.cell (fun _ => by have := own_block_ge ho29 (g := g29) rfl; omega)
        refine m_last rfl rfl rfl (o_store (vs := [.slice (some ⟨g29, 0, none⟩) ((K.L ++ [] ++ [(⟨a12_0, c12_0, K.t⟩ : SV)]).length) c29]) (cs' := [.slice (some ⟨g29, 0, none⟩) ((K.L ++ [] ++ [(⟨a12_0, c12_0, K.t⟩ : SV)]).length) c29]) Try.sizeOf55 rfl rfl rfl rfl hc29 (Nat.le_of_ble_eq_true rfl) rfl rfl ?_)
        intro w14 hz14 hc29 hG14
        replace hsz : w.heap.size ≤ w14.heap.size := by rw [hz14]; exact hsz
        refine m_nil ?_
        refine r_forget [] trivial (fun e15 => ?_)
        refine r_ret_ (vs := []) rfl Try.func63 rfl (.nil _) trivial ?_
        exact ⟨_, _, [(⟨a12_0, c12_0, K.t⟩ : SV)], (by rw [hd0, addL, if_neg (by rw [hho]; simp), if_pos (by rw [Int.toNat_natCast] at hle; omega)]; rfl), AddI.leaf hH hE1 hIa ho12_0 ho29 hd29 hc29 hG14, rfl⟩
      · skip
        try simp only [decide_eq_true_eq, decide_eq_false_iff_not, Bool.not_eq_true', Bool.not_eq_false', Bool.not_not, Bool.not_true, Bool.not_false, Bool.not_eq_true, Bool.not_eq_false, Int.not_lt, Int.not_le, Bool.and_eq_true, Bool.or_eq_true, Bool.and_eq_false_iff, Bool.or_eq_false_iff] at hc10
        have hle := hc10
        refine r_skip ?_
        refine r_ret_ (vs := []) rfl Try.func63 rfl (.nil _) trivial ?_
        exact ⟨_, _, [], (by rw [hd0, addL, if_neg (by rw [hho]; simp), if_neg (by rw [Int.toNat_natCast] at hle; omega)]; rfl), hI.rebase hE1, rfl⟩
    · skip
      try simp only [decide_eq_true_eq, decide_eq_false_iff_not, Bool.not_eq_true', Bool.not_eq_false', Bool.not_not, Bool.not_true, Bool.not_false, Bool.not_eq_true, Bool.not_eq_false, Int.not_lt, Int.not_le, Bool.and_eq_true, Bool.or_eq_true, Bool.and_eq_false_iff, Bool.or_eq_false_iff] at hc7
      obtain ⟨dd, hdd⟩ : ∃ dd, d = dd + 1 := ⟨d - 1, by omega⟩
      have hKdd : K.d = dd + 1 := hKd.trans hdd
      refine r_skip ?_
      refine r_seq ?_
      refine r_region' ?_
      refine l_q (q_fieldAddr (o' := 0) rfl fld82_0 rfl) ?_
      refine l_q (q_fieldAddr (o' := 0) rfl fld58_0 rfl) ?_
      refine l_q (q_load Try.isAgg22 rfl ((hI.bt.has (o := 0) rfl)) rfl) ?_
      refine l_q (q_len rfl Try.underlying22 rfl rfl) ?_
      refine l_q (q_move (v := .int _ _) rfl rfl) ?_
      refine l_nil ?_
      refine r_forget [(0, .slice _ _ _), (2, .pointer _), (5, .pointer _), (7, .pointer _), (32, .slice _ _ _), (33, .int _ _), (34, .int _ _)] ⟨rfl, rfl, rfl, rfl, rfl, rfl, rfl, trivial⟩ (fun e16 => ?_)
      refine r_block ?_
      refine r_rounds (α := Nat × (Option Addr) × Nat × (List SV)) (fun ⟨k, oa1, oc1, L2⟩ e wl => Knows e [(0, .slice K.ta K.t.length K.tc), (2, ptr K.bt 0), (5, ptr K.ba 0), (7, ptr b1 0), (32, .slice K.a K.c.length K.cc), (33, vint (K.c.length : Int)), (34, vint (k : Int))] ∧ (k ≤ K.c.length) ∧ (L2.map (·.xs) = (List.range k).flatMap (fun (n : Nat) => addL K.c K.rd K.er dd (K.t ++ [(n : Int)]) (afL K.rd K.R (List.replicate 41 0) 32 (pre32 K.t (K.c.getD n []))))) ∧ (AddI K w1 oa1 oc1 L2 wl) ∧ (Blk wl b1 ((K.R).map vint)) ∧ (w.heap.size ≤ wl.heap.size)) (fun ⟨k, oa1, oc1, L2⟩ => K.c.length - k) (0, K.oa, K.oc, []) ?_ ?_
      · skip
        exact ⟨⟨rfl, rfl, rfl, rfl, rfl, rfl, rfl, trivial⟩, (Nat.zero_le _), rfl, hI, hb1, hsz⟩
      · skip
        rintro ⟨k, oa1, oc1, L2⟩ el17 wl17 ⟨hkn, hk, hL2, hI, hb1, hsz⟩ ih17
        obtain ⟨e17, rfl⟩ := knows_env hkn
        have hlen : L2.length ≤ k * capN K.c.length dd := by have := congrArg List.length hL2; rw [List.length_map] at this; rw [this]; exact addFlat_len (fun n => addL_len _ _ _ _ _ _) _
        refine r_seq ?_
        refine r_region' ?_
        refine l_q (q_lss rfl rfl rfl) ?_
        refine l_nil ?_
        refine r_seq ?_
        refine r_cond rfl (fun hc18 => ?_) (fun hc18 => ?_)
        · skip
          try simp only [decide_eq_true_eq, decide_eq_false_iff_not, Bool.not_eq_true', Bool.not_eq_false', Bool.not_not, Bool.not_true, Bool.not_false, Bool.not_eq_true, Bool.not_eq_false, Int.not_lt, Int.not_le, Bool.and_eq_true, Bool.or_eq_true, Bool.and_eq_false_iff, Bool.or_eq_false_iff] at hc18
          have hkc : k < K.c.length := by omega
          have hcl := hH.cl _ (getD_lt (d := []) hkc)
          refine r_skip ?_
          refine r_seq ?_
          refine r_block ?_
          refine r_seq ?_
          refine r_region' ?_
          refine l_q (q_move (v := .int _ _) rfl rfl) ?_
          obtain ⟨b19, o19, ha19, hh19⟩ := (hH.row.below hI.b0).at1 k ((K.c).getD k []) (getD_some (by omega))
          refine l_q (q_indexAddr1 Try.underlying22 Try.sizeOf9 rfl ha19 rfl (by omega) rfl) ?_
          refine l_q (q_load Try.isAgg9 rfl (hh19) rfl) ?_
          refine l_q (q_assign (v := .int _ _) rfl rfl) ?_
          refine l_q (q_assign (v := .string _) rfl rfl) ?_
          refine l_nil ?_
          refine r_forget [(0, .slice _ _ _), (2, .pointer _), (5, .pointer _), (7, .pointer _), (8, .int _ _), (9, .string _), (32, .slice _ _ _), (33, .int _ _), (34, .int _ _)] ⟨rfl, rfl, rfl, rfl, rfl, rfl, rfl, rfl, rfl, trivial⟩ (fun e20 => ?_)
          refine r_seq ?_
          refine r_seq ?_
          refine r_region' ?_
          refine l_q (q_move (v := .slice _ _ _) rfl rfl) ?_
          refine l_q (q_len rfl Try.underlying26 rfl rfl) ?_
          refine l_q (q_gtr rfl rfl rfl) ?_
          refine l_nil ?_
          refine r_forget [(0, .slice _ _ _), (2, .pointer _), (5, .pointer _), (7, .pointer _), (8, .int _ _), (9, .string _), (32, .slice _ _ _), (33, .int _ _), (34, .int _ _), (41, .bool _)] ⟨rfl, rfl, rfl, rfl, rfl, rfl, rfl, rfl, rfl, rfl, trivial⟩ (fun e21 => ?_)
          refine r_cond rfl (fun hc22 => ?_) (fun hc22 => ?_)
          · skip
            try simp only [decide_eq_true_eq, decide_eq_false_iff_not, Bool.not_eq_true', Bool.not_eq_false', Bool.not_not, Bool.not_true, Bool.not_false, Bool.not_eq_true, Bool.not_eq_false, Int.not_lt, Int.not_le, Bool.and_eq_true, Bool.or_eq_true, Bool.and_eq_false_iff, Bool.or_eq_false_iff] at hc22
            have hpre : [32] ++ K.c.getD k [] = pre32 K.t (K.c.getD k []) := by rw [pre32, if_pos (by omega)]
            refine r_region' ?_
            refine l_q (q_move (v := .string _) rfl rfl) ?_
            refine l_q (q_add_str rfl rfl (by simp only [List.length_append, List.length_cons, List.length_nil]; omega) rfl) ?_
            refine l_q (q_assign (v := .string _) rfl rfl) ?_
            refine l_nil ?_
            refine r_forget [(0, .slice _ _ _), (2, .pointer _), (5, .pointer _), (7, .pointer _), (8, .int _ _), (9, .string _), (32, .slice _ _ _), (33, .int _ _), (34, .int _ _)] ⟨rfl, rfl, rfl, rfl, rfl, rfl, rfl, rfl, rfl, trivial⟩ (fun e23 => ?_)
            refine r_draw (grown_refl (Value.slice K.ta K.t.length K.tc).ownBlock) (grown_tr (Value.slice K.ta K.t.length K.tc).ownBlock) [0, 1, 2, 5, 6, 7, 3, 4, 8, 9] [3, 4, 8, 9, 1009] 4 (by kernel_rfl) (by kernel_rfl) ?_
            intro w24 _ hE24
            replace hb1 := hb1.ext hE24
            replace hI := hI.ext hE24
            replace hsz := Nat.le_trans hsz hE24.size
            refine m_q rfl rfl (fun w' hC' => q_load Try.isAgg99 rfl (((hI.ba.step hC' (by first | exact (fun h => by cases h) | exact (fun h => by have := hH.text.lt _ h.symm; omega))).has (o := 0) rfl)) rfl) ?_
            refine m_q rfl rfl (fun w' hC' => q_move (v := .slice _ _ _) rfl rfl) ?_
            refine m_q rfl rfl (fun w' hC' => q_move (v := .int _ _) rfl rfl) ?_
            refine m_q rfl rfl (fun w' hC' => q_load_agg (n := 3) Try.isAgg82 Try.sizeOf82 rfl (((hI.bt.step hC' (by first | exact (fun h => by cases h) | exact (fun h => by have := hH.text.lt _ h.symm; omega))).cells' (cs' := [_, _, _]) 0 3 rfl)) rfl rfl) ?_
            refine m_q rfl rfl (fun w' hC' => q_load_agg (n := 41) Try.isAgg101 Try.sizeOf101 rfl (((hb1.step hC' (by first | exact (fun h => by cases h) | exact (fun h => by have := hH.text.lt _ h.symm; omega))).cells0)) (by rw [List.length_map]; assumption) rfl) ?_
            refine m_q rfl rfl (fun w' hC' => q_move (v := .string _) rfl rfl) ?_
            refine m_o rfl rfl (o_buildSlice (el := 3) (cs := [vint (k : Int)]) Try.underlying26 el3 (by decide) (by kernel_rfl) rfl (by decide) rfl ?_)
            intro b25 w25 hzl25 hzr25 _ hb25 hE25 ho25
            refine ⟨(grown_of_ext _ hE25), ?_⟩
            have hbs_b25 : w.heap.size ≤ b25 := Nat.le_trans hsz hzl25
            replace hb1 := hb1.ext hE25
            replace hI := hI.ext hE25
            replace hsz := Nat.le_trans hsz hE25.size
            refine m_o rfl rfl (o_append_two (f := vint) K.t (k : Int) Try.underlying26 el3 rfl rfl hI.text rfl hb25 rfl (by omega) hI.base rfl ?_)
            intro g48 c48 w48 hz48 ho48 hd48
            refine ⟨two_grown hd48, ?_⟩
            replace hsz := Nat.le_trans hsz hz48
            have hTD := TD.of hI hd48
            replace hb1 := two_blk hd48 hb1 (fun ha => by have := hH.tlt (g := g48) (by rw [ha]; rfl); omega)
            replace hI := hI.app hH hs1 ho48 hd48
            refine m_o rfl rfl (o_call Try.call65 rfl (after_ret K.a K.cc K.c K.rd K.er K.R ([32] ++ ((K.c).getD k [])) _ (hH.row.below hI.b0) hcn hrdl hRl hH.Rb (by (try simp only [List.length_append, List.length_cons, List.length_nil]); omega)) rfl ?_)
            rintro _ w26 ⟨rfl, hE26⟩
            refine ⟨(grown_of_ext _ hE26), ?_⟩
            replace hb1 := hb1.ext hE26
            replace hI := hI.ext hE26
            replace ho48 := own_ext ho48 hE26
            replace hsz := Nat.le_trans hsz hE26.size
            refine m_last rfl rfl rfl (o_callv (f := 63) (fst := []) (cap := [_, _, _, _]) rfl Try.call63 rfl (ih dd hdd _ { K with d := dd, t := K.t ++ [(k : Int)], ta := some ⟨g48, 0, none⟩, tc := c48, R := afL K.rd K.R (List.replicate 41 0) 32 ([32] ++ ((K.c).getD k [])), oa := oa1, oc := oc1, L := K.L ++ L2 } rfl (hI.childH hH hKdd ho48 hlen hkc (afL_len _ _ hRl _ _ _) (afL_b _ _ _ _ _ hH.Rb zeros_b))) rfl ?_)
            rintro _ w27 ⟨oa3, oc3, L3, hmap, hIc, rfl⟩
            have hnS := notS hI hH hTD hbs_b1 hzr1
            replace hb1 := hb1.frS hIc.fr hnS
            replace hI := hI.back hH hs1 hTD hKdd hIc
            have hmap2 : L3.map (·.xs) = addL K.c K.rd K.er dd (K.t ++ [(k : Int)]) (afL K.rd K.R (List.replicate 41 0) 32 (pre32 K.t (K.c.getD k []))) := by rw [← hpre]; exact hmap
            have hL2n := flat_snoc (f := (fun (n : Nat) => addL K.c K.rd K.er dd (K.t ++ [(n : Int)]) (afL K.rd K.R (List.replicate 41 0) 32 (pre32 K.t (K.c.getD n []))))) hL2 hmap2
            replace hsz := Nat.le_trans hsz hIc.fr.size
            refine m_nil ?_
            refine r_forget [(0, .slice _ _ _), (2, .pointer _), (5, .pointer _), (7, .pointer _), (32, .slice _ _ _), (33, .int _ _), (34, .int _ _)] ⟨rfl, rfl, rfl, rfl, rfl, rfl, rfl, trivial⟩ (fun e28 => ?_)
            refine r_inBlock ?_
            refine r_region' ?_
            refine l_q (q_add rfl rfl (by omega) rfl) ?_
            refine l_q (q_move (v := .int _ _) rfl rfl) ?_
            refine l_nil ?_
            refine r_forget [(0, .slice _ _ _), (2, .pointer _), (5, .pointer _), (7, .pointer _), (32, .slice _ _ _), (33, .int _ _), (34, .int _ _)] ⟨rfl, rfl, rfl, rfl, rfl, rfl, rfl, trivial⟩ (fun e29 => ?_)
            exact ih17 (k + 1, oa3, oc3, L2 ++ L3) _ _ ⟨⟨rfl, rfl, rfl, rfl, rfl, rfl, by first | rfl | exact vint_eq (by omega), trivial⟩, (by omega), hL2n, hI, hb1, hsz⟩ (by first | omega | (dsimp only; omega))
          · skip
            try simp only [decide_eq_true_eq, decide_eq_false_iff_not, Bool.not_eq_true', Bool.not_eq_false', Bool.not_not, Bool.not_true, Bool.not_false, Bool.not_eq_true, Bool.not_eq_false, Int.not_lt, Int.not_le, Bool.and_eq_true, Bool.or_eq_true, Bool.and_eq_false_iff, Bool.or_eq_false_iff] at hc22
            have hpre : K.c.getD k [] = pre32 K.t (K.c.getD k []) := by rw [pre32, if_neg (by omega)]
            refine r_skip ?_
            refine r_draw (grown_refl (Value.slice K.ta K.t.length K.tc).ownBlock) (grown_tr (Value.slice K.ta K.t.length K.tc).ownBlock) [0, 1, 2, 5, 6, 7, 3, 4, 8, 9] [3, 4, 8, 9, 1009] 4 (by kernel_rfl) (by kernel_rfl) ?_
            intro w30 _ hE30
            replace hb1 := hb1.ext hE30
            replace hI := hI.ext hE30
            replace hsz := Nat.le_trans hsz hE30.size
            refine m_q rfl rfl (fun w' hC' => q_load Try.isAgg99 rfl (((hI.ba.step hC' (by first | exact (fun h => by cases h) | exact (fun h => by have := hH.text.lt _ h.symm; omega))).has (o := 0) rfl)) rfl) ?_
            refine m_q rfl rfl (fun w' hC' => q_move (v := .slice _ _ _) rfl rfl) ?_
            refine m_q rfl rfl (fun w' hC' => q_move (v := .int _ _) rfl rfl) ?_
            refine m_q rfl rfl (fun w' hC' => q_load_agg (n := 3) Try.isAgg82 Try.sizeOf82 rfl (((hI.bt.step hC' (by first | exact (fun h => by cases h) | exact (fun h => by have := hH.text.lt _ h.symm; omega))).cells' (cs' := [_, _, _]) 0 3 rfl)) rfl rfl) ?_
            refine m_q rfl rfl (fun w' hC' => q_load_agg (n := 41) Try.isAgg101 Try.sizeOf101 rfl (((hb1.step hC' (by first | exact (fun h => by cases h) | exact (fun h => by have := hH.text.lt _ h.symm; omega))).cells0)) (by rw [List.length_map]; assumption) rfl) ?_
            refine m_q rfl rfl (fun w' hC' => q_move (v := .string _) rfl rfl) ?_
            refine m_o rfl rfl (o_buildSlice (el := 3) (cs := [vint (k : Int)]) Try.underlying26 el3 (by decide) (by kernel_rfl) rfl (by decide) rfl ?_)
            intro b31 w31 hzl31 hzr31 _ hb31 hE31 ho31
            refine ⟨(grown_of_ext _ hE31), ?_⟩
            have hbs_b31 : w.heap.size ≤ b31 := Nat.le_trans hsz hzl31
            replace hb1 := hb1.ext hE31
            replace hI := hI.ext hE31
            replace hsz := Nat.le_trans hsz hE31.size
            refine m_o rfl rfl (o_append_two (f := vint) K.t (k : Int) Try.underlying26 el3 rfl rfl hI.text rfl hb31 rfl (by omega) hI.base rfl ?_)
            intro g48 c48 w48 hz48 ho48 hd48
            refine ⟨two_grown hd48, ?_⟩
            replace hsz := Nat.le_trans hsz hz48
            have hTD := TD.of hI hd48
            replace hb1 := two_blk hd48 hb1 (fun ha => by have := hH.tlt (g := g48) (by rw [ha]; rfl); omega)
            replace hI := hI.app hH hs1 ho48 hd48
            refine m_o rfl rfl (o_call Try.call65 rfl (after_ret K.a K.cc K.c K.rd K.er K.R ((K.c).getD k []) _ (hH.row.below hI.b0) hcn hrdl hRl hH.Rb (by (try simp only [List.length_append, List.length_cons, List.length_nil]); omega)) rfl ?_)
            rintro _ w32 ⟨rfl, hE32⟩
            refine ⟨(grown_of_ext _ hE32), ?_⟩
            replace hb1 := hb1.ext hE32
            replace hI := hI.ext hE32
            replace ho48 := own_ext ho48 hE32
            replace hsz := Nat.le_trans hsz hE32.size
            refine m_last rfl rfl rfl (o_callv (f := 63) (fst := []) (cap := [_, _, _, _]) rfl Try.call63 rfl (ih dd hdd _ { K with d := dd, t := K.t ++ [(k : Int)], ta := some ⟨g48, 0, none⟩, tc := c48, R := afL K.rd K.R (List.replicate 41 0) 32 ((K.c).getD k []), oa := oa1, oc := oc1, L := K.L ++ L2 } rfl (hI.childH hH hKdd ho48 hlen hkc (afL_len _ _ hRl _ _ _) (afL_b _ _ _ _ _ hH.Rb zeros_b))) rfl ?_)
            rintro _ w33 ⟨oa3, oc3, L3, hmap, hIc, rfl⟩
            have hnS := notS hI hH hTD hbs_b1 hzr1
            replace hb1 := hb1.frS hIc.fr hnS
            replace hI := hI.back hH hs1 hTD hKdd hIc
            have hmap2 : L3.map (·.xs) = addL K.c K.rd K.er dd (K.t ++ [(k : Int)]) (afL K.rd K.R (List.replicate 41 0) 32 (pre32 K.t (K.c.getD k []))) := by rw [← hpre]; exact hmap
            have hL2n := flat_snoc (f := (fun (n : Nat) => addL K.c K.rd K.er dd (K.t ++ [(n : Int)]) (afL K.rd K.R (List.replicate 41 0) 32 (pre32 K.t (K.c.getD n []))))) hL2 hmap2
            replace hsz := Nat.le_trans hsz hIc.fr.size
            refine m_nil ?_
            refine r_forget [(0, .slice _ _ _), (2, .pointer _), (5, .pointer _), (7, .pointer _), (32, .slice _ _ _), (33, .int _ _), (34, .int _ _)] ⟨rfl, rfl, rfl, rfl, rfl, rfl, rfl, trivial⟩ (fun e34 => ?_)
            refine r_inBlock ?_
            refine r_region' ?_
            refine l_q (q_add rfl rfl (by omega) rfl) ?_
            refine l_q (q_move (v := .int _ _) rfl rfl) ?_
            refine l_nil ?_
            refine r_forget [(0, .slice _ _ _), (2, .pointer _), (5, .pointer _), (7, .pointer _), (32, .slice _ _ _), (33, .int _ _), (34, .int _ _)] ⟨rfl, rfl, rfl, rfl, rfl, rfl, rfl, trivial⟩ (fun e35 => ?_)
            exact ih17 (k + 1, oa3, oc3, L2 ++ L3) _ _ ⟨⟨rfl, rfl, rfl, rfl, rfl, rfl, by first | rfl | exact vint_eq (by omega), trivial⟩, (by omega), hL2n, hI, hb1, hsz⟩ (by first | omega | (dsimp only; omega))
        · skip
          try simp only [decide_eq_true_eq, decide_eq_false_iff_not, Bool.not_eq_true', Bool.not_eq_false', Bool.not_not, Bool.not_true, Bool.not_false, Bool.not_eq_true, Bool.not_eq_false, Int.not_lt, Int.not_le, Bool.and_eq_true, Bool.or_eq_true, Bool.and_eq_false_iff, Bool.or_eq_false_iff] at hc18
          refine r_exit rfl ?_
          refine r_end_ (vs := []) rfl Try.func63 rfl (.nil _) trivial ?_
          have hkn : k = K.c.length := by omega
          exact ⟨_, _, L2, (by rw [hL2, hKdd, addL, if_neg (by rw [hho]; simp), hkn]), hI.rebase hE1, rfl⟩
end Go.Proofs.Ytfbjllabgkabkaa
