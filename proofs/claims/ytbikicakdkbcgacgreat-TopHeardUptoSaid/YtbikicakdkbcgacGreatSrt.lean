import Derived.Test.YtbikicakdkbcgacGreatCmp
import Derived.Test.YtbikicakdkbcgacGreatGvB
import Derived.Shelf.SlSortCmp.NoneTotal
set_option linter.unusedVariables false
set_option linter.unusedSimpArgs false
namespace Go.Gv
open Go Go.RowKit Go.Proofs Go.Sort
theorem ci_lt {x y : Int} : Lib.compareInt x y < 0 ↔ x < y := by
  unfold Lib.compareInt
  split
  · constructor
    · intro _; assumption
    · intro _; decide
  · split
    · constructor
      · intro h; exact absurd h (by decide)
      · intro h; omega
    · constructor
      · intro h; exact absurd h (by decide)
      · intro h; omega
theorem cmpV_self : ∀ a : List Int, cmpV a a = 0
  | [] => rfl
  | x :: l => by rw [cmpV, if_pos rfl]; exact cmpV_self l
theorem cmpV_cons {x y : Int} {a b : List Int} : cmpV (x :: a) (y :: b) < 0 ↔ x < y ∨ x = y ∧ cmpV a b < 0 := by
  rw [cmpV]
  by_cases h : x = y
  · rw [if_pos h]; omega
  · rw [if_neg h, ci_lt]; omega
theorem cmpV_trans : ∀ {a b c : List Int}, cmpV a b < 0 → cmpV b c < 0 → cmpV a c < 0
  | a, b, [], _, h2 => by cases b <;> exact absurd h2 (by simp [cmpV, cmpz])
  | a, [], _ :: _, h1, _ => by cases a <;> exact absurd h1 (by simp [cmpV])
  | [], _ :: _, _ :: _, _, _ => by simp [cmpV]
  | x :: a, y :: b, z :: c, h1, h2 => by
    rw [cmpV_cons] at h1 h2 ⊢
    rcases h1 with h1 | ⟨rfl, h1⟩
    · rcases h2 with h2 | ⟨rfl, h2⟩
      · left; omega
      · left; omega
    · rcases h2 with h2 | ⟨rfl, h2⟩
      · left; omega
      · right; exact ⟨rfl, cmpV_trans h1 h2⟩
theorem cmpV_total : ∀ {a b : List Int}, a.length = b.length → cmpV a b < 0 ∨ a = b ∨ cmpV b a < 0
  | [], [], _ => .inr (.inl rfl)
  | x :: a, y :: b, h => by
    rw [cmpV_cons, cmpV_cons]
    rcases cmpV_total (a := a) (b := b) (by simpa using h) with h1 | rfl | h1
    · omega
    · rcases (show x < y ∨ x = y ∨ y < x by omega) with h2 | rfl | h2
      · exact .inl (.inl h2)
      · exact .inr (.inl rfl)
      · exact .inr (.inr (.inl h2))
    · omega
/-- a is ahead of b: shorter, or as long and lexicographically before it -/
def ltL (a b : List Int) : Bool := decide (cmpL a b < 0)
theorem ltL_iff {a b : List Int} : ltL a b = true ↔ a.length < b.length ∨ a.length = b.length ∧ cmpV a b < 0 := by
  unfold ltL cmpL
  rw [decide_eq_true_eq]
  split <;> omega
theorem ltL_irrefl (a : List Int) : ltL a a = false := by
  rw [Bool.eq_false_iff]
  intro h
  rw [ltL_iff, cmpV_self] at h
  omega
theorem ltL_trans {a b c : List Int} (h1 : ltL a b = true) (h2 : ltL b c = true) : ltL a c = true := by
  rw [ltL_iff] at h1 h2 ⊢
  rcases h1 with h1 | ⟨h1, h1'⟩ <;> rcases h2 with h2 | ⟨h2, h2'⟩
  · left; omega
  · left; omega
  · left; omega
  · exact .inr ⟨by omega, cmpV_trans h1' h2'⟩
theorem ltL_total (a b : List Int) : ltL a b = true ∨ a = b ∨ ltL b a = true := by
  rcases (show a.length < b.length ∨ a.length = b.length ∨ b.length < a.length by omega) with h | h | h
  · exact .inl (ltL_iff.2 (.inl h))
  · rcases cmpV_total h with h1 | h1 | h1
    · exact .inl (ltL_iff.2 (.inr ⟨h, h1⟩))
    · exact .inr (.inl h1)
    · exact .inr (.inr (ltL_iff.2 (.inr ⟨h.symm, h1⟩)))
  · exact .inr (.inr (ltL_iff.2 (.inl h)))
theorem ltL_asymm {a b : List Int} (h : ltL a b = true) : ltL b a = false := by
  rw [Bool.eq_false_iff]
  intro h2
  exact absurd (ltL_trans h h2) (by rw [ltL_irrefl]; decide)
theorem ltL_ntrans {a b c : List Int} (h1 : ltL a b = false) (h2 : ltL b c = false) : ltL a c = false := by
  rw [Bool.eq_false_iff]
  intro h
  rcases ltL_total a b with h3 | rfl | h3
  · rw [h3] at h1; cases h1
  · rw [h] at h2; cases h2
  · have := ltL_trans h3 h
    rw [this] at h2; cases h2
/-- one sorted list only -/
theorem sorted_uniq : ∀ {a b : List (List Int)}, a.Perm b → a.Pairwise (fun x y => ltL y x = false) → b.Pairwise (fun x y => ltL y x = false) → a = b
  | [], b, hp, _, _ => by rw [List.nil_perm.1 hp]
  | x :: a, [], hp, _, _ => by cases (List.perm_nil.1 hp)
  | x :: a, y :: b, hp, ha, hb => by
    have hxy : x = y := by
      rcases ltL_total x y with h | h | h
      · have hx : x ∈ y :: b := hp.mem_iff.1 (by simp)
        rcases List.mem_cons.1 hx with h2 | h2
        · exact h2
        · have := (List.pairwise_cons.1 hb).1 x h2
          rw [this] at h; cases h
      · exact h
      · have hy : y ∈ x :: a := hp.mem_iff.2 (by simp)
        rcases List.mem_cons.1 hy with h2 | h2
        · exact h2.symm
        · have := (List.pairwise_cons.1 ha).1 y h2
          rw [this] at h; cases h
    subst hxy
    rw [sorted_uniq (List.Perm.cons_inv hp) (List.pairwise_cons.1 ha).2 (List.pairwise_cons.1 hb).2]
def sortL (l : List (List Int)) : List (List Int) := l.mergeSort (fun x y => !ltL y x)
theorem sortL_perm (l : List (List Int)) : (sortL l).Perm l := List.mergeSort_perm _ _
theorem sortL_sorted (l : List (List Int)) : (sortL l).Pairwise (fun x y => ltL y x = false) := by
  have := List.pairwise_mergeSort (le := fun x y => !ltL y x) (fun a b c h1 h2 => by
    simp only [Bool.not_eq_true'] at h1 h2 ⊢
    exact ltL_ntrans h2 h1) (fun a b => by
    rcases ltL_total a b with h | rfl | h
    · simp [ltL_asymm h]
    · simp [ltL_irrefl]
    · simp [ltL_asymm h]) l
  exact this.imp (fun h => by simpa using h)
theorem sortL_eq {a b : List (List Int)} (hp : a.Perm b) (hs : a.Pairwise (fun x y => ltL y x = false)) : a = sortL b := sorted_uniq (hp.trans (sortL_perm b).symm) hs (sortL_sorted b)
section
variable {α : Type} [Inhabited α]
theorem sw_cell (enc : α → Value) {w : World} {blk off m b o : Nat} {dk : Array α} {os : Array Obj} (hne : b ≠ blk) (hb : b < w.heap.size) : (sortWorld enc w blk off m dk os).cell? ⟨b, o, none⟩ = w.cell? ⟨b, o, none⟩ := by
  unfold sortWorld
  rw [cell?_grow _ _ _ (by rw [Sort.size_putRow]; exact hb), cell?_putRow_other _ _ _ _ _ _ (Or.inl hne), cell?_ahead]
theorem sw_grown (enc : α → Value) (w : World) (blk off m : Nat) (dk : Array α) (os : Array Obj) : w.grownBy (sortWorld enc w blk off m dk os) (some blk) := by
  refine ⟨rfl, rfl, rfl, ?_, fun k hk hne => ?_⟩
  · unfold sortWorld grow
    show _ ≤ ((putRow enc (Sort.ahead w m) blk off dk).heap ++ os).size
    rw [Array.size_append, Sort.size_putRow]
    exact Nat.le_add_right _ _
  · unfold sortWorld
    rw [heap_grow_old _ _ (by rw [Sort.size_putRow]; exact hk)]
    show (w.heap.modify blk _)[k]? = _
    rw [Array.getElem?_modify, if_neg (fun h => hne (by rw [h]))]
end
theorem heap_sortedV {α : Type} [Inhabited α] {enc : α → Value} {w : World} {g n : Nat} {os : Array Obj} {cur : Array Value} {e : TypeId} {fr : Nat × Nat} (d : Array α) (hb : w.heap[g]? = some (.cells cur e fr)) :
    (sortWorld enc w g 0 n d os).heap[g]? = some (.cells (putCells enc 0 d cur) e fr) := by
  have hg : g < w.heap.size := (Array.getElem?_eq_some_iff.1 hb).1
  unfold sortWorld
  rw [heap_grow_old _ _ (by simpa using hg)]
  simp [putRow, mapBlock, Sort.ahead, Array.getElem?_modify, hb, onCells]
theorem take_putCellsV {α : Type} [Inhabited α] {enc : α → Value} (cur : Array Value) (d : Array α) (h : d.size ≤ cur.size) : (putCells enc 0 d cur).toList.take d.size = d.toList.map enc := by
  apply List.ext_getElem?
  intro j
  by_cases hj : j < d.size
  · rw [List.getElem?_take_of_lt hj, Array.getElem?_toList]
    simp [putCells, hj, show j < cur.size by omega]
  · rw [List.getElem?_take_eq_none (by omega), List.getElem?_eq_none (by simp; omega)]
theorem sortL_ret {w : World} {B INT INTS : Nat} {oa : Option Addr} {oc : Nat} {M : List SV} (hown : w.ownsRow B INTS 1 (.slice oa M.length oc) M.length (M.map SV.enc)) (hr : OwnsI w B INT M) (hne : INT ≠ INTS) (hbig : M.length ≤ 2097152) (hx : ∀ s ∈ M, s.xs.length ≤ 2097152) (hpos : 0 < M.length) :
    Ret Tryz.prog 52 [.slice oa M.length oc, .func (.func 53) ⟨[]⟩ ⟨[]⟩] w (fun v w' => v = .tuple ⟨[]⟩ ∧ ∃ S : List SV, S.map (·.xs) = sortL (M.map (·.xs)) ∧ S.length = M.length ∧ w'.ownsRow B INTS 1 (.slice oa M.length oc) M.length (S.map SV.enc) ∧ OwnsI w' B INT S ∧ (∀ s ∈ S, s ∈ M) ∧ w.grownBy w' (Value.slice oa M.length oc).ownBlock) := by
  obtain ⟨s0, hs0⟩ : ∃ s, s ∈ M := by cases M with
    | nil => simp at hpos
    | cons s l => exact ⟨s, by simp⟩
  letI : Inhabited {s : SV // s ∈ M} := ⟨⟨s0, hs0⟩⟩
  have hrow := Row.of_owns hown
  have hsee : ∀ s ∈ M, ∀ g, oa = some ⟨g, 0, none⟩ → ∀ j, j < s.xs.length → ∃ b o, s.a = some ⟨b, o, none⟩ ∧ b ≠ g ∧ b < w.heap.size ∧ w.cell? ⟨b, o + j, none⟩ = some (.int .i64 (s.xs.getD j 0)) := by
    intro s hs g hg j hj
    have h1 := hr s hs
    have h2 := Row.of_owns h1
    rcases h2.2.2 with h0 | ⟨b, o, ha, hc⟩
    · rw [List.map_eq_nil_iff] at h0; rw [h0] at hj; simp at hj
    · have hcj := hc j (vint (s.xs.getD j 0)) (by rw [List.getElem?_map, List.getElem?_eq_getElem hj, List.getD_eq_getElem?_getD, List.getElem?_eq_getElem hj]; rfl)
      refine ⟨b, o, ha, ?_, ?_, hcj⟩
      · have := OwnsI.ne hr hown hne s hs b (by show (Value.slice s.a _ _).ownBlock = _; rw [ha]; rfl)
        intro h
        refine this ?_
        rw [hg, h]; rfl
      · have h5 : w.heap[b]?.isSome = true := by
          unfold Has World.cell? at hcj
          cases h6 : w.heap[b]? with
          | none => simp [h6] at hcj
          | some x => rfl
        rcases Nat.lt_or_ge b w.heap.size with h7 | h7
        · exact h7
        · rw [Array.getElem?_eq_none h7] at h5; cases h5
  rcases hown.2 with ⟨_, h0⟩ | ⟨g, cap, cur, hv, hbg, hg, hnc, hcm, hcs, htk⟩
  · omega
  cases hv
  have hglt : g < w.heap.size := by
    rcases Nat.lt_or_ge g w.heap.size with h7 | h7
    · exact h7
    · rw [Array.getElem?_eq_none h7] at hg; cases hg
  let enc : {s : SV // s ∈ M} → Value := fun x => x.1.enc
  let d : Array {s : SV // s ∈ M} := M.attach.toArray
  have hds : d.size = M.length := by simp [d]
  have hdl : d.toList.map (·.1) = M := by simp [d]
  have hH : Holds enc w g 0 d := by
    intro j hj
    have hj' : j < M.length := by omega
    constructor
    · show (match w.heap[g]? with | some (.cells c _ _) => _ | _ => _) = _
      rw [hg]
      have h1 : cur.toList[j]? = some (M[j].enc) := by
        have h2 : (cur.toList.take (M.length * 1))[j]? = some (M[j].enc) := by rw [htk, List.getElem?_map, List.getElem?_eq_getElem hj']; rfl
        rwa [List.getElem?_take_of_lt (by omega)] at h2
      have h3 : d[j]!.1 = M[j] := by
        rw [getElem!_pos d j hj]
        simp [d]
      show cur[0 + j]? = some (d[j]!.1.enc)
      rw [h3, Nat.zero_add]
      simpa using h1
    · show (match w.heap[g]? with | some (.cells _ _ (lo, hi)) => _ | _ => _) = _
      rw [hg]
      simp
  have hcmp : CmpLays1 Tryz.prog 53 #[] enc (fun x y => cmpL x.1.xs y.1.xs) g 0 d.size w := by
    intro m os dk hdk x y
    have hs : ∀ z : {s : SV // s ∈ M}, Sees (sortWorld enc w g 0 m dk os) z.1.a z.1.xs := fun z j hj => by
      obtain ⟨b, o, h1, h2, h3, h4⟩ := hsee z.1 z.2 g rfl j hj
      exact ⟨b, o, h1, by rw [sw_cell enc h2 h3]; exact h4⟩
    exact (Tryz.lists1_call x.1.a y.1.a x.1.c y.1.c x.1.xs y.1.xs _ (hs x) (hs y) (hx _ x.2) (hx _ y.2))
  have hO : SWO (ltOf fun x y : {s : SV // s ∈ M} => cmpL x.1.xs y.1.xs) := ⟨fun x => ltL_irrefl x.1.xs, fun x y z => ltL_trans, fun x y z => ltL_ntrans⟩
  have eg : ∀ args w, (callFunc 53 args).run Tryz.prog w = .ok (.enter 53 args) w := enters_of Tryz.func53 (by kernel_rfl) rfl
  have hcon := Any.slices_SortFunc Tryz.laysSort enc (fun _ => rfl) (fun x y => cmpL x.1.xs y.1.xs) hO 53 #[] g 0 oc d w eg hcmp hH hglt (by omega)
  rw [hds] at hcon
  refine Calls.mono hcon ?_
  rintro e w' ⟨rfl, d', n, os, hp, hs, rfl⟩
  have hd1 : d'.size = M.length := hp.1.trans hds
  have hpl : d'.toList.Perm d.toList := by
    have h1 := hp.2.2
    rw [← hd1] at h1
    rw [Array.extract_size] at h1
    rwa [hd1, ← hds, Array.extract_size] at h1
  have hSx : (d'.toList.map (·.1)).map (·.xs) = sortL (M.map (·.xs)) := by
    refine sortL_eq ?_ ?_
    · have h1 := (hpl.map (·.1)).map (·.xs)
      rwa [hdl] at h1
    · rw [List.map_map, List.pairwise_map, List.pairwise_iff_getElem]
      intro i j hi hj hij
      have h1 := hs i j (Nat.zero_le _) hij (by simpa [hd1] using hj)
      rw [getElem!_pos d' j (by simpa using hj), getElem!_pos d' i (by simpa using hi)] at h1
      exact h1
  refine ⟨_, rfl, rfl, d'.toList.map (·.1), hSx, by simp [hd1], ⟨by simp [hd1], .inr ⟨g, oc, _, rfl, hbg, heap_sortedV (enc := enc) d' hg, hnc, hcm, by simp [putCells, hcs], ?_⟩⟩, ?_, ?_, sw_grown enc w g 0 n d' os⟩
  · rw [Nat.mul_one, ← hd1, take_putCellsV cur d' (by omega), List.map_map]; rfl
  · intro s hs
    obtain ⟨z, _, rfl⟩ := List.mem_map.1 hs
    have h1 := hr z.1 z.2
    exact own_keepB h1 (fun g2 hg2 => (sw_grown enc w g 0 n d' os).block g2 (h1.lt g2 hg2).2 (fun he => by
      have e1 : g2 = g := by simpa using he
      exact OwnsI.ne hr hown hne z.1 z.2 g2 hg2 (by rw [e1]; rfl)))
  · intro s hs
    obtain ⟨z, _, rfl⟩ := List.mem_map.1 hs
    exact z.2
/-- sorted, whatever the list's length -/
theorem sort6_ret {w : World} {B INT INTS : Nat} {oa : Option Addr} {oc : Nat} {M : List SV} (hown : w.ownsRow B INTS 1 (.slice oa M.length oc) M.length (M.map SV.enc)) (hr : OwnsI w B INT M) (hne : INT ≠ INTS) (hbig : M.length ≤ 2097152) (hx : ∀ s ∈ M, s.xs.length ≤ 2097152) :
    Ret Tryz.prog 52 [.slice oa M.length oc, .func (.func 53) ⟨[]⟩ ⟨[]⟩] w (fun v w' => v = .tuple ⟨[]⟩ ∧ ∃ S : List SV, S.map (·.xs) = sortL (M.map (·.xs)) ∧ S.length = M.length ∧ w'.ownsRow B INTS 1 (.slice oa M.length oc) M.length (S.map SV.enc) ∧ OwnsI w' B INT S ∧ (∀ s ∈ S, s ∈ M) ∧ w.grownBy w' (Value.slice oa M.length oc).ownBlock) := by
  by_cases hpos : 0 < M.length
  · exact sortL_ret hown hr hne hbig hx hpos
  · obtain rfl : M = [] := List.length_eq_zero_iff.1 (by omega)
    refine Calls.mono (AnyF.slices_SortFunc_none { Tryz.laysSort with } oa oc _ w : Calls Tryz.prog 52 _ w _) ?_
    rintro e w' ⟨rfl, rfl⟩
    refine ⟨_, rfl, rfl, [], ?_, rfl, hown, hr, fun s h => h, ⟨rfl, rfl, rfl, Nat.le_refl _, fun _ _ _ => rfl⟩⟩
    exact (List.perm_nil.1 (sortL_perm [])).symm
end Go.Gv
