/- Contracts. -/
import Derived.Test.YtbikicakdkbcgabGreatA7
import Derived.Test.YtbikicakdkbcgabGreatGvTy3
set_option linter.unusedVariables false
set_option linter.unusedSimpArgs false
namespace Go.Proofs.YtbikicakdkbcgabGreat
open Go Go.RowKit Go.Gv Go.Fl

theorem ris_up {l : List Int} {a b : Int} (h : risB l a = true) (hab : a ≤ b) : risB l b = true := by
  rw [ris_iff] at h ⊢
  exact ⟨h.1, fun x hx => ⟨(h.2 x hx).1, by have := (h.2 x hx).2; omega⟩⟩
section
variable {nd md : List Int} {pl ql : List PV} {L D : List SV}
/-- with fewer safe rotas the best one has no fewer duties, and the smallest set is no shorter -/
theorem hard_facts (hok : faultP (po nd pl L) = 0) (hok2 : faultP (po md ql D) = 0) (hln : ql.length ≤ pl.length) (hH : ∀ R, IsR md ql.length R → chn md ql (D.map (·.xs)) 0 stood0 R = true → IsR nd pl.length R ∧ chn nd pl (L.map (·.xs)) 0 stood0 R = true) (h10 : ¬ (bestR md ql D).2.2 = 10) :
    (bestR nd pl L).2.2 = 0 ∧ (bestR nd pl L).2.1 ≤ (bestR md ql D).2.1 ∧ (enoughR nd pl L).2.length ≤ (enoughR md ql D).2.length := by
  have hf0 : (bestR md ql D).2.2 = 0 := by
    rcases (best_enough hok2).2 with h | h
    · exact h
    · exact absurd h h10
  obtain ⟨hI, hc, hd, _⟩ := bst_yes hok2 hf0
  obtain ⟨hI2, hc2⟩ := hH _ hI hc
  have he0 : (bestR nd pl L).2.2 = 0 := by
    rcases best_spec hok with ⟨_, h⟩ | ⟨R, h, _⟩
    · rw [h _ hI2] at hc2; cases hc2
    · rw [h]
  obtain ⟨_, _, hd2, hmin⟩ := bst_yes hok he0
  refine ⟨he0, ?_, ?_⟩
  · rw [hd, hd2]
    rcases hmin _ hI2 hc2 with h | h
    · exact Int.le_of_lt h
    · exact Int.le_of_eq h.1
  · rcases enough_spec hok2 with ⟨_, h2⟩ | ⟨l', h1, h2, h3, _⟩
    · rw [h2 _ hI] at hc; cases hc
    · rcases enough_spec hok with ⟨_, h5⟩ | ⟨l, h4, h5, h6, h7⟩
      · rw [h5 _ hI2] at hc2; cases hc2
      · obtain ⟨R, hR, hRl, hcR⟩ := (can_iff hok2 h2).1 h3
        obtain ⟨hR2, hcR2⟩ := hH R hR hcR
        have h9 := ris_up (b := (pl.length : Int)) h2 (by omega)
        have h8 := h7 l' h9 ((can_iff hok h9).2 ⟨R, hR2, hRl, hcR2⟩)
        rw [h1, h4]
        show l.length ≤ l'.length
        rw [ltL_dec, Bool.or_eq_false_iff, decide_eq_false_iff_not] at h8
        omega
/-- more cases, more needs: fewer rotas are safe -/
theorem chn_mono {C C' R : List (List Int)} {S : List Int} (hn : ∀ k, nd.getD k 0 ≤ md.getD k 0) (hC : ∀ l ∈ C, l ∈ C') (h : chn md pl C' 0 S R = true) : chn nd pl C 0 S R = true := by
  rw [chn_eq, Bool.and_eq_true, List.all_eq_true] at h ⊢
  refine ⟨h.1, fun k hk => ?_⟩
  have h1 := h.2 k hk
  have h2 := hn (0 + k)
  unfold holdsP at h1 ⊢
  rw [Bool.and_eq_true, List.all_eq_true, decide_eq_true_eq] at h1 ⊢
  exact ⟨fun l hl => decide_eq_true (Int.le_trans h2 (of_decide_eq_true (h1.1 l (hC l hl)))), Int.le_trans h2 h1.2⟩
end
theorem er_ten {p : Prop} [Decidable p] {e : Int} (h : e = (if p then 0 else 10)) (hne : ¬ e = 0) : e = 10 := by
  split at h
  · exact absurd h hne
  · exact h
theorem below_more {B B' : Nat} {w w1 w2 : World} (hB : Below B w w1) (hC : Below B' w1 w2) (h : B ≤ B') : Below B w w2 := hB.trans (hC.mono h)
theorem at1_same {w : World} {a : Option Addr} {n c b o i : Nat} {α : Type} {f : α → Value} {xs : List α} {x : α} (h : Row w a n c 1 (xs.map f)) (hx : xs[i]? = some x) (ha : a = some ⟨b, o, none⟩) : Has w b (o + i) (f x) := by
  obtain ⟨b', o', ha', hh⟩ := h.at1 i x hx
  rw [ha] at ha'
  cases ha'
  exact hh
theorem atN_same {w : World} {a : Option Addr} {n c sz b o i : Nat} {cs : List Value} (h : Row w a n c sz cs) (hp : 0 < sz) (hi : i < n) (ha : a = some ⟨b, o, none⟩) : Cells w b (o + i * sz) ((cs.drop (i * sz)).take sz) := by
  obtain ⟨b', o', ha', hh⟩ := h.at hp i hi
  rw [ha] at ha'
  cases ha'
  exact hh
theorem TwoI.low {w w' : World} {B el B2 e2 sz2 n2 : Nat} {a1 a2 : Option Addr} {c1 c2 : Nat} {l1 l2 : List Int} {v2 : Value} {xs2 : List Value} (h : TwoI w B el a1 c1 l1 a2 c2 l2) (hl1 : ∀ g, (Value.slice a1 l1.length c1).ownBlock = some g → g < B2) (hl2 : ∀ g, (Value.slice a2 l2.length c2).ownBlock = some g → g < B2) (ho : w.ownsRow B2 e2 sz2 v2 n2 xs2) (hG : w.grownBy w' v2.ownBlock) : TwoI w' B el a1 c1 l1 a2 c2 l2 :=
  ⟨own_apart h.o1 hl1 ho hG, own_apart h.o2 hl2 ho hG, h.ap⟩
theorem big_nd {nd md : List Int} {pl : List PV} {L : List SV} (h : PoBig nd pl L) (hm : md.length ≤ 2097152) : PoBig md pl L := ⟨hm, h.2⟩
theorem rep_get {n i : Nat} (h : i < n) : (List.replicate n true).getD i false = true := by
  rw [List.getD_eq_getElem?_getD, List.getElem?_replicate, if_pos h]; rfl
theorem min_snoc {X l : List Int} {k : Nat} (h : l = (X.take k).map (min 2)) (hk : k < X.length) : l ++ [min 2 (X.getD k 0)] = (X.take (k + 1)).map (min 2) := by
  subst h
  rw [show X.take (k + 1) = X.take k ++ [X.getD k 0] from take_succ_getD hk, List.map_append]; rfl
theorem mine_snoc {X : List NT} {l : List Int} {k : Nat} (h : l = (X.take k).map (fun n => min 2 n.le)) (hk : k < X.length) : l ++ [min 2 (X.getD k nt0).le] = (X.take (k + 1)).map (fun n => min 2 n.le) := by
  subst h
  rw [← nt_snoc hk, List.map_append]; rfl
section
variable {nd md : List Int} {pl : List PV} {L : List SV}
theorem fault_nd (h : faultP (po nd pl L) = 0) (hl : md.length = nd.length) (hv : ∀ x ∈ md, okNeed x = true) : faultP (po md pl L) = 0 := by
  unfold faultP po at h ⊢
  dsimp only at h ⊢
  rw [hl]
  split at h
  · cases h
  · rename_i h1
    rw [if_neg h1]
    split at h
    · rename_i h2
      rw [if_pos]
      simp only [Bool.and_eq_true] at h2 ⊢
      exact ⟨⟨⟨h2.1.1.1, List.all_eq_true.2 hv⟩, h2.1.2⟩, h2.2⟩
    · cases h
theorem need_min {cap can s0 s1 oil lt : Int} {ns : List NT} {cs X : List Int} (hlp : LeastP cap can s0 s1 ns cs X oil lt) (hX : X.length = ns.length) (k : Nat) : (ns.map (fun n => min 2 n.le)).getD k 0 ≤ (X.map (min 2)).getD k 0 := by
  by_cases hk : k < ns.length
  · have h := hlp.rng k (by omega)
    have e1 : (ns.map (fun n => min 2 n.le)).getD k 0 = min 2 (ns.getD k nt0).le := by
      rw [List.getD_eq_getElem?_getD, List.getElem?_map, List.getD_eq_getElem?_getD, List.getElem?_eq_getElem hk]; rfl
    have e2 : (X.map (min 2)).getD k 0 = min 2 (X.getD k 0) := by
      rw [List.getD_eq_getElem?_getD, List.getElem?_map, List.getD_eq_getElem?_getD, List.getElem?_eq_getElem (by omega)]; rfl
    rw [e1, e2]
    omega
  · rw [List.getD_eq_getElem?_getD, List.getElem?_eq_none (by rw [List.length_map]; omega), List.getD_eq_getElem?_getD, List.getElem?_eq_none (by rw [List.length_map]; omega)]
    exact Int.le_refl _
/-- the needs of the fewest wicks: valid, and no more duties -/
theorem man_facts {cap can s0 s1 oil lt : Int} {ns : List NT} {cs X : List Int} (hos : OkS cap can s0 s1 ns) (hlp : LeastP cap can s0 s1 ns cs X oil lt) (hX : X.length = ns.length) (hok : faultP (po (X.map (min 2)) pl L) = 0) :
    faultP (po (ns.map (fun n => min 2 n.le)) pl L) = 0 ∧ (¬ (bestR (X.map (min 2)) pl L).2.2 = 10 → (bestR (ns.map (fun n => min 2 n.le)) pl L).2.2 = 0 ∧ (bestR (ns.map (fun n => min 2 n.le)) pl L).2.1 ≤ (bestR (X.map (min 2)) pl L).2.1) := by
  have hlen : (ns.map (fun n => min 2 n.le)).length = (X.map (min 2)).length := by rw [List.length_map, List.length_map, hX]
  have hoy : faultP (po (ns.map (fun n => min 2 n.le)) pl L) = 0 := fault_nd hok hlen (fun x hx => by
    obtain ⟨n, hn, rfl⟩ := List.mem_map.1 hx
    have h1 := okNight_iff.1 (hos.ok n hn)
    unfold okNeed
    rw [Bool.and_eq_true, decide_eq_true_eq, decide_eq_true_eq]
    omega)
  refine ⟨hoy, fun h10 => ?_⟩
  obtain ⟨h1, h2, _⟩ := hard_facts hoy hok (Nat.le_refl _) (fun R hR hc => ⟨⟨by rw [hR.1, hlen], hR.2⟩, chn_mono (need_min hlp hX) (fun l hl => hl) hc⟩) h10
  exact ⟨h1, h2⟩
end

theorem row_lows {w : World} {a : Option Addr} {n c sz : Nat} {cs : List Value} (h : Row w a n c sz cs) : cs ≠ [] → ∀ x, a = some x → x.block < w.heap.size := fun hne x hx => by
  rcases h.2.2 with h0 | ⟨b, o, ha, hc⟩
  · exact absurd h0 hne
  · rw [ha] at hx; cases hx
    cases cs with
    | nil => exact absurd rfl hne
    | cons y l =>
      have h1 := hc 0 y rfl
      unfold Has World.cell? at h1
      cases h4 : w.heap[b]? with
      | none => simp [h4] at h1
      | some y => exact (Array.getElem?_eq_some_iff.1 h4).1
theorem row_updlow {w w' : World} {a : Option Addr} {n c sz B b : Nat} {cs : List Value} (h : Row w a n c sz cs) (hl : cs ≠ [] → ∀ x, a = some x → x.block < B) (hG : w.grownBy w' (some b)) (hb : B ≤ b) : Row w' a n c sz cs := by
  refine ⟨h.1, h.2.1, ?_⟩
  have hlow := row_lows h
  rcases h.2.2 with h0 | ⟨b1, o, ha, hc⟩
  · exact .inl h0
  · by_cases hne : cs = []
    · exact .inl hne
    · refine .inr ⟨b1, o, ha, fun j v hj => ?_⟩
      have h1 := hc j v hj
      have h2 : w'.heap[b1]? = w.heap[b1]? := hG.block b1 (hlow hne _ ha) (fun he => by
        have h3 : b1 = b := Option.some.inj he
        have h4 : b1 < B := hl hne _ ha
        omega)
      unfold Has World.cell? at h1 ⊢
      rw [h2]; exact h1
theorem ne_of_hq {v u : Value} {b n b6 : Nat} (hq : v.ownBlock = u.ownBlock ∨ v.ownBlock = some n) (hu : u.ownBlock = some b) (h1 : b ≠ b6) (h2 : n ≠ b6) : ∀ g, v.ownBlock = some g → g ≠ b6 := fun g hg he => by
  subst he
  rcases hq with h | h
  · exact h1 (Option.some.inj ((hu.symm.trans h.symm).trans hg))
  · exact h2 (Option.some.inj (h.symm.trans hg))
theorem row_lowv {w w' : World} {a : Option Addr} {n c sz B e2 sz2 n2 : Nat} {cs xs2 : List Value} {v2 : Value} (h : Row w a n c sz cs) (hl : cs ≠ [] → ∀ x, a = some x → x.block < B) (ho : w.ownsRow B e2 sz2 v2 n2 xs2) (hG : w.grownBy w' v2.ownBlock) : Row w' a n c sz cs := by
  refine ⟨h.1, h.2.1, ?_⟩
  have hlow := row_lows h
  rcases h.2.2 with h0 | ⟨b, o, ha, hc⟩
  · exact .inl h0
  · by_cases hne : cs = []
    · exact .inl hne
    · refine .inr ⟨b, o, ha, fun j v hj => ?_⟩
      have h1 := hc j v hj
      have h2 : w'.heap[b]? = w.heap[b]? := hG.block b (hlow hne _ ha) (fun he => by
        have h3 := own_block_ge ho he.symm
        have h4 : b < B := hl hne _ ha
        omega)
      unfold Has World.cell? at h1 ⊢
      rw [h2]; exact h1



end Go.Proofs.YtbikicakdkbcgabGreat
