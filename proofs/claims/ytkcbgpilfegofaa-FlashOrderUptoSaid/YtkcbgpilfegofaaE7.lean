/- Contracts. -/
import Derived.Test.YtkcbgpilfegofaaE4
import Derived.Test.YtkcbgpilfegofaaGvDraw3
set_option linter.unusedVariables false
set_option linter.unusedSimpArgs false
namespace Go.Proofs.Ytkcbgpilfegofaa
open Go Go.RowKit Go.Gv Go.Fl

/-- the texts of a code whose letters have other numbers -/
theorem nodup_sub_len {α : Type} [BEq α] [LawfulBEq α] : ∀ {l m : List α}, l.Nodup → (∀ x ∈ l, x ∈ m) → l.length ≤ m.length
  | [], _, _, _ => Nat.zero_le _
  | a :: l, m, hd, hs => by
    obtain ⟨ha, hd⟩ := List.nodup_cons.1 hd
    have hm := hs a (by simp)
    have := nodup_sub_len (m := m.erase a) hd (fun x hx => (List.mem_erase_of_ne (fun he => ha (by rw [← he]; exact hx))).2 (hs x (by simp [hx])))
    rw [List.length_erase_of_mem hm] at this
    have := List.length_pos_of_mem hm
    rw [List.length_cons]; omega
structure Ren (c x : List Sg) (f : Int → Int) : Prop where
  len : x.length = c.length
  rng : ∀ u : Int, 0 ≤ u ∧ u < c.length → 0 ≤ f u ∧ f u < c.length
  let_ : ∀ u : Int, 0 ≤ u ∧ u < c.length → x.getD (f u).toNat [] = c.getD u.toNat []
  inj : ∀ u v : Int, 0 ≤ u ∧ u < c.length → 0 ≤ v ∧ v < c.length → f u = f v → u = v
theorem Ren.signs {c x : List Sg} {f : Int → Int} (h : Ren c x f) : ∀ {t : List Int}, isText c t = true → signs x (t.map f) = signs c t
  | [], _ => rfl
  | n :: t, ht => by
    obtain ⟨h1, h2⟩ := isText_cons ht
    rw [List.map_cons, signs_cons, signs_cons, h.let_ n h1, h.signs h2]
    simp only [List.map_eq_nil_iff]
theorem Ren.text {c x : List Sg} {f : Int → Int} (h : Ren c x f) {t : List Int} (ht : isText c t = true) : isText x (t.map f) = true := by
  rw [isText_iff] at ht ⊢
  intro u hu
  obtain ⟨v, hv, rfl⟩ := List.mem_map.1 hu
  rw [h.len]
  exact h.rng v (ht v hv)
theorem Ren.mem {c x : List Sg} {f : Int → Int} (h : Ren c x f) {rd : Sg} {er : Int} {n : Nat} {t : List Int} (ht : t ∈ texts c rd er n) : t.map f ∈ texts x rd er n := by
  rw [mem_texts] at ht ⊢
  refine ⟨by rw [List.length_map]; exact ht.1, h.text ht.2.1, ?_⟩
  rw [h.signs ht.2.1]; exact ht.2.2
theorem Ren.map_inj {c x : List Sg} {f : Int → Int} (h : Ren c x f) : ∀ {t u : List Int}, isText c t = true → isText c u = true → t.map f = u.map f → t = u
  | [], [], _, _, _ => rfl
  | [], m :: u, _, _, he => by simp at he
  | n :: t, [], _, _, he => by simp at he
  | n :: t, m :: u, ht, hu, he => by
    obtain ⟨h1, h2⟩ := isText_cons ht
    obtain ⟨h3, h4⟩ := isText_cons hu
    rw [List.map_cons, List.map_cons] at he
    injection he with e1 e2
    rw [h.inj n m h1 h3 e1, h.map_inj h2 h4 e2]
theorem Ren.len_le {c x : List Sg} {f : Int → Int} (h : Ren c x f) (rd : Sg) (er : Int) (n : Nat) : (texts c rd er n).length ≤ (texts x rd er n).length := by
  have hd : ((texts c rd er n).map (fun t => t.map f)).Nodup := by
    refine List.pairwise_map.2 (List.Pairwise.imp_of_mem (fun {a b} ha hb hne he => hne ?_) (nodup_texts c rd er n))
    exact h.map_inj (mem_texts.1 ha).2.1 (mem_texts.1 hb).2.1 he
  have := nodup_sub_len (m := texts x rd er n) hd (fun y hy => by
    obtain ⟨t, ht, rfl⟩ := List.mem_map.1 hy
    exact h.mem ht)
  rwa [List.length_map] at this
def rotC (c : List Sg) (k : Nat) : List Sg := c.drop k ++ c.take k
def rotN (N k : Nat) (u : Int) : Int := (u + (N : Int) - (k : Int)) % (N : Int)
theorem rotN_eq {N k : Nat} {u : Int} (hk : k < N) (hu : 0 ≤ u ∧ u < (N : Int)) : rotN N k u = if u < k then u + N - k else u - k := by
  unfold rotN
  split
  · exact Int.emod_eq_of_lt (by omega) (by omega)
  · rw [show u + (N : Int) - k = (u - k) + N by omega, Int.add_emod_right]
    exact Int.emod_eq_of_lt (by omega) (by omega)
theorem rotC_len (c : List Sg) (k : Nat) : (rotC c k).length = c.length := by unfold rotC; rw [List.length_append, List.length_drop, List.length_take]; omega
theorem rotC_get {c : List Sg} {k j : Nat} (hk : k < c.length) (hj : j < c.length) : (rotC c k).getD j [] = c.getD (if j + k < c.length then j + k else j + k - c.length) [] := by
  unfold rotC
  rw [List.getD_eq_getElem?_getD, List.getD_eq_getElem?_getD]
  congr 1
  by_cases h : j + k < c.length
  · rw [if_pos h, List.getElem?_append_left (by rw [List.length_drop]; omega), List.getElem?_drop, Nat.add_comm]
  · rw [if_neg h, List.getElem?_append_right (by rw [List.length_drop]; omega), List.getElem?_take, if_pos (by rw [List.length_drop]; omega), List.length_drop]
    congr 1; omega
theorem rot_ren {c : List Sg} {k : Nat} (hk : k < c.length) : Ren c (rotC c k) (rotN c.length k) where
  len := rotC_len c k
  rng := fun u hu => by rw [rotN_eq hk hu]; split <;> omega
  let_ := fun u hu => by
    have h1 : 0 ≤ rotN c.length k u ∧ rotN c.length k u < c.length := by rw [rotN_eq hk hu]; split <;> omega
    rw [rotC_get hk (by omega)]
    congr 1
    have key := rotN_eq hk hu
    by_cases h : u < k
    · rw [if_pos h] at key; rw [key]; split <;> omega
    · rw [if_neg h] at key; rw [key]; split <;> omega
  inj := fun u v hu hv he => by
    rw [rotN_eq hk hu, rotN_eq hk hv] at he
    split at he <;> split at he <;> omega
def rotB (N k : Nat) (u : Int) : Int := if u + k < N then u + k else u + k - N
theorem rot_ren' {c : List Sg} {k : Nat} (hk : k < c.length) : Ren (rotC c k) c (rotB c.length k) where
  len := (rotC_len c k).symm
  rng := fun u hu => by rw [rotC_len] at *; unfold rotB; split <;> omega
  let_ := fun u hu => by
    rw [rotC_len] at hu
    rw [show u.toNat = u.toNat from rfl, rotC_get hk (by omega)]
    congr 1
    unfold rotB
    split <;> split <;> omega
  inj := fun u v hu hv he => by
    rw [rotC_len] at hu hv
    unfold rotB at he
    split at he <;> split at he <;> omega
theorem rot_texts_len {c : List Sg} {k : Nat} (hk : k < c.length) (rd : Sg) (er : Int) (n : Nat) : (texts (rotC c k) rd er n).length = (texts c rd er n).length :=
  Nat.le_antisymm ((rot_ren' hk).len_le rd er n) ((rot_ren hk).len_le rd er n)
theorem rot_fault {c : List Sg} {k : Nat} (hc : fault c = 0) (hk : k < c.length) : fault (rotC c k) = 0 := by
  obtain ⟨h6, _, hall⟩ := fault_zero hc
  refine fault_good (by rw [rotC_len]; exact h6) (by rw [rotC_len]; omega) (fun i hi => ?_)
  rw [rotC_len] at hi
  refine ⟨by rw [rotC_get hk hi]; exact (hall _ (by split <;> omega)).1, distinct_good (by rw [rotC_len]; omega) (fun j hj => ?_)⟩
  rw [rotC_get hk hi, rotC_get hk (by omega)]
  intro he
  have hle : ∀ a : Nat, a < c.length → (0 : Int) ≤ (a : Int) ∧ (a : Int) < c.length := fun a ha => by omega
  have h1 : (if j + k < c.length then j + k else j + k - c.length) < c.length := by split <;> omega
  have h2 : (if i + k < c.length then i + k else i + k - c.length) < c.length := by split <;> omega
  have := letter_inj hc (hle _ h1) (hle _ h2) (by rw [Int.toNat_natCast, Int.toNat_natCast]; exact he)
  have h3 : (if j + k < c.length then j + k else j + k - c.length) = (if i + k < c.length then i + k else i + k - c.length) := by omega
  split at h3 <;> split at h3 <;> omega
theorem rot_step {N k l : Nat} {xs : List Int} (h : l < xs.length) : (xs.take l).map (rotN N k) ++ [(xs.getD l 0 + (N : Int) - (k : Int)) % (N : Int)] = (xs.take (l + 1)).map (rotN N k) := by
  rw [take_succ_getD h, List.map_append]; rfl
theorem own_sep {w w' : World} {base e size n B e2 size2 n2 : Nat} {v v2 : Value} {xs xs2 : List Value} (h : w.ownsRow base e size v n xs) (hlt : ∀ g, v.ownBlock = some g → g < B) (ho : w.ownsRow B e2 size2 v2 n2 xs2) (hG : w.grownBy w' v2.ownBlock) : w'.ownsRow base e size v n xs :=
  own_keepB h (fun g hg => hG.block g (h.lt g hg).2 (fun he => by have h1 := own_block_ge ho he.symm; have h2 := hlt g hg; omega))
theorem OwnsI.sep {w w' : World} {b el B e2 size2 n2 : Nat} {l : List SV} {v2 : Value} {xs2 : List Value} (h : OwnsI w b el l) (hlt : ∀ s ∈ l, ∀ g, (SV.enc s).ownBlock = some g → g < B) (ho : w.ownsRow B e2 size2 v2 n2 xs2) (hG : w.grownBy w' v2.ownBlock) : OwnsI w' b el l :=
  fun s hs => own_sep (h s hs) (hlt s hs) ho hG
theorem OwnsI.ltB {w : World} {b el : Nat} {l : List SV} (h : OwnsI w b el l) : ∀ s ∈ l, ∀ g, (SV.enc s).ownBlock = some g → g < w.heap.size := fun s hs g hg => ((h s hs).lt g hg).2



end Go.Proofs.Ytkcbgpilfegofaa
