/- Stores into rows of the caller's own, and rows in which each row lies in a block of its own. Conditions: none. -/
import Derived.Test.YtbikicakdkbcgacGreatGvTy3
set_option linter.unusedVariables false
set_option linter.unusedSimpArgs false
namespace Go.Gv
open Go Go.RowKit
section
variable {P : Program} {ops : Array Oper} {e : Env} {w : World} {d : Option Nat} {ty : TypeId} {pos : String} {af : Array Edge} {g : Option (Nat × Bool)}
/-- a store into one cell of a row of one's own -/
theorem o_store_ownc {K : Value → World → Prop} {t el : TypeId} {x y : Operand} {b o j sz n c base : Nat} {a : Option Addr} {v : Value} {xs : List Value} (hsz : ∀ w, (sizeOf t).run P w = .ok 1 w) (hx : ev e x = ptr b (o + j)) (ha : a = some ⟨b, o, none⟩) (hy : ev e y = v) (hv : v.cells = ⟨[v]⟩) (h1 : v.oneCell' = true)
    (hown : w.ownsRow base el sz (.slice a n c) n xs) (hj : j < xs.length) (hw : wantedE ops e ⟨d, .store t x y, ty, pos, af, g⟩ = true)
    (h : ∀ w', w'.heap.size = w.heap.size → w'.ownsRow base el sz (.slice a n c) n (xs.set j v) → w.grownBy w' (Value.ownBlock (.slice a n c)) → K undef w') : EffAt P ops e w ⟨d, .store t x y, ty, pos, af, g⟩ K := by
  obtain ⟨hl, h2⟩ := hown
  rcases h2 with ⟨h3, _⟩ | ⟨g2, cap, cur, h3, hb, hg, hnc, hcm, hcs, htk⟩
  · rw [ha] at h3; cases h3
  · subst ha
    cases h3
    have hlen : cur.toList.length = c * sz := by simpa using hcs
    have hle : n * sz ≤ c * sz := Nat.mul_le_mul_right sz hnc
    have hst := run_storeCells_at P b (0 + j) el [v] 0 ⟨cur.toList⟩ w (by simpa using hg) (by simp; omega) (fun u hu => by simp at hu; subst hu; exact h1)
    simp only [Nat.add_zero] at hst
    have hset : (cur.toList.take (0 + j) ++ [v] ++ cur.toList.drop (0 + j + [v].length)) = cur.toList.set j v := by
      rw [List.set_eq_take_append_cons_drop, if_pos (by omega)]; simp
    rw [hset] at hst
    simp only [Nat.zero_add] at hst
    have hnew := setRow_heap w b cur ⟨cur.toList.set j v⟩ el _ hg
    refine e_done (w' := w.setRow b ⟨cur.toList.set j v⟩) hw rfl ?_ (h _ (by simp) ⟨by rw [List.length_set]; exact hl, .inr ⟨b, c, ⟨cur.toList.set j v⟩, rfl, hb, hnew, hnc, hcm, by simpa using hcs, ?_⟩⟩ ⟨rfl, rfl, rfl, by simp, fun k _ hk => setRow_other w b k _ (fun e => hk (by simp [e, Value.ownBlock]))⟩)
    · simp [execOp, hx, hy, Instr.storeAt, Instr.sureAddr, storeVar, hsz, hv, hst]
    · rw [← htk]
      show (cur.toList.set j v).take (n * sz) = _
      rw [List.take_set]
theorem o_store_own {α : Type} {f : α → Value} (xs : List α) (i : Nat) (x' : α) {K : Value → World → Prop} {t el : TypeId} {x y : Operand} {b o n c base : Nat} {a : Option Addr} (hsz : ∀ w, (sizeOf t).run P w = .ok 1 w) (hx : ev e x = ptr b (o + i)) (ha : a = some ⟨b, o, none⟩) (hy : ev e y = f x') (hv : (f x').cells = ⟨[f x']⟩) (h1 : ∀ x, (f x).oneCell' = true)
    (hown : w.ownsRow base el 1 (.slice a n c) n (xs.map f)) (hi : i < xs.length) (hw : wantedE ops e ⟨d, .store t x y, ty, pos, af, g⟩ = true)
    (h : ∀ w', w'.heap.size = w.heap.size → w'.ownsRow base el 1 (.slice a n c) n ((xs.set i x').map f) → w.grownBy w' (Value.ownBlock (.slice a n c)) → K undef w') : EffAt P ops e w ⟨d, .store t x y, ty, pos, af, g⟩ K :=
  o_store_ownc hsz hx ha hy hv (h1 x') hown (by rw [List.length_map]; exact hi) hw (fun w' hz ho hG => h w' hz (by rw [List.map_set]; exact ho) hG)
end
/-- rows each of which lies in a block of its own -/
def Dis (l : List SV) : Prop := l.Pairwise (fun s t => ∀ g, s.enc.ownBlock = some g → t.enc.ownBlock ≠ some g)
theorem Dis.nil : Dis [] := List.Pairwise.nil
theorem Dis.snoc {w : World} {base e size n : Nat} {l : List SV} {s : SV} {xs : List Value} (h : Dis l) (hu : ∀ t ∈ l, ∀ g, (SV.enc t).ownBlock = some g → g < base) (hs : w.ownsRow base e size s.enc n xs) : Dis (l ++ [s]) := by
  unfold Dis
  rw [List.pairwise_append]
  refine ⟨h, List.pairwise_singleton _ _, fun t ht u hu2 g hg he => ?_⟩
  obtain rfl : u = s := by simpa using hu2
  have h1 := own_block_ge hs he
  have h2 := hu t ht g hg
  omega
theorem Dis.apart {l : List SV} (h : Dis l) {i j : Nat} (hi : i < l.length) (hj : j < l.length) (hne : i ≠ j) : ∀ g, (l.getD i sv0).enc.ownBlock = some g → (l.getD j sv0).enc.ownBlock ≠ some g := by
  intro g hg he
  rw [List.getD_eq_getElem?_getD, List.getElem?_eq_getElem hi] at hg
  rw [List.getD_eq_getElem?_getD, List.getElem?_eq_getElem hj] at he
  rcases Nat.lt_or_ge i j with h1 | h1
  · exact List.pairwise_iff_getElem.1 h i j hi hj h1 g hg he
  · exact List.pairwise_iff_getElem.1 h j i hj hi (by omega) g he hg
/-- one row turns, the others stay -/
theorem OwnsI.set {w w' : World} {B el i : Nat} {l : List SV} {s : SV} (h : OwnsI w B el l) (hd : Dis l) (hi : i < l.length) (hG : w.grownBy w' (l.getD i sv0).enc.ownBlock) (hs : w'.ownsRow B el 1 s.enc s.xs.length (s.xs.map vint)) : OwnsI w' B el (l.set i s) := fun t ht => by
  obtain ⟨j, hj, rfl⟩ := List.mem_iff_getElem.1 ht
  rw [List.length_set] at hj
  rw [List.getElem_set]
  split
  · exact hs
  · rename_i hne
    have h1 : (l.getD j sv0) = l[j] := by rw [List.getD_eq_getElem?_getD, List.getElem?_eq_getElem hj]; rfl
    rw [← h1]
    have h2 := h (l.getD j sv0) (by rw [h1]; exact List.getElem_mem hj)
    exact own_keepB h2 (fun g hg => hG.block g (h2.lt g hg).2 (fun he => hd.apart hj hi (fun e => hne e.symm) g hg he.symm))
theorem Dis.set {l : List SV} {i : Nat} {s : SV} (h : Dis l) (hs : s.enc.ownBlock = (l.getD i sv0).enc.ownBlock) : Dis (l.set i s) := by
  unfold Dis
  rw [List.pairwise_iff_getElem]
  have key : ∀ k (hk : k < (l.set i s).length), ((l.set i s)[k]).enc.ownBlock = (l.getD k sv0).enc.ownBlock := fun k hk => by
    rw [List.getElem_set]
    split
    · rename_i he; subst he; exact hs
    · rw [List.length_set] at hk
      rw [List.getD_eq_getElem?_getD, List.getElem?_eq_getElem hk]; rfl
  intro a b ha hb hab g hg
  rw [key] at hg ⊢
  rw [List.length_set] at ha hb
  exact h.apart ha hb (by omega) g hg
/-- a row turns in its place -/
theorem OwnsI.put {w w' : World} {B el i e2 base n2 : Nat} {l : List SV} {v2 : Value} {xs2 : List Value} (h : OwnsI w B el l) (ho : w.ownsRow base e2 1 v2 n2 xs2) (hne : el ≠ e2) (hG : w.grownBy w' v2.ownBlock) : OwnsI w' B el l := h.kept ho hne hG
end Go.Gv
