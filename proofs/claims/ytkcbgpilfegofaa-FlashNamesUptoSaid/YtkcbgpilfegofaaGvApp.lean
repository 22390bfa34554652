/- Appends in place or anew; frames that spare some blocks; nil slices. Conditions: none. -/
import Derived.Test.YtkcbgpilfegofaaGvEq
import Derived.Lib.SliceRun
set_option linter.unusedVariables false
set_option linter.unusedSimpArgs false
namespace Go.Gv
open Go Go.RowKit

/-- all that was there is kept but the blocks in S -/
structure FrS (S : Nat → Prop) (w w' : World) : Prop where
  os : w'.os = w.os
  tape : w'.tape = w.tape
  output : w'.output = w.output
  size : w.heap.size ≤ w'.heap.size
  keep : ∀ k, k < w.heap.size → ¬ S k → w'.heap[k]? = w.heap[k]?
theorem FrS.refl (S : Nat → Prop) (w : World) : FrS S w w := ⟨rfl, rfl, rfl, Nat.le_refl _, fun _ _ _ => rfl⟩
theorem FrS.trans {S S' : Nat → Prop} {a b c : World} (h : FrS S a b) (h' : FrS S' b c) (hs : ∀ k, k < a.heap.size → S' k → S k) : FrS S a c :=
  ⟨h'.os.trans h.os, h'.tape.trans h.tape, h'.output.trans h.output, Nat.le_trans h.size h'.size, fun k hk hn => (h'.keep k (Nat.lt_of_lt_of_le hk h.size) (fun h2 => hn (hs k hk h2))).trans (h.keep k hk hn)⟩
theorem FrS.of_ext (S : Nat → Prop) {w w' : World} (h : Ext w w') : FrS S w w' := ⟨h.os, h.tape, h.output, h.size, fun k hk _ => h.block k hk (by simp)⟩
theorem FrS.of_grown {S : Nat → Prop} {w w' : World} {row : Option Nat} (h : w.grownBy w' row) (hs : ∀ k, row = some k → S k) : FrS S w w' :=
  ⟨h.os, h.tape, h.output, h.size, fun k hk hn => h.block k hk (fun he => hn (hs k he.symm))⟩
theorem FrS.ext {S : Nat → Prop} {a b c : World} (h : FrS S a b) (h' : Ext b c) : FrS S a c := h.trans (.of_ext S h') (fun _ _ h => h)
theorem FrS.grown {S : Nat → Prop} {a b c : World} {row : Option Nat} (h : FrS S a b) (h' : b.grownBy c row) (hs : ∀ k, row = some k → k < a.heap.size → S k) : FrS S a c :=
  h.trans (S' := fun k => row = some k) (.of_grown h' (fun _ h => h)) (fun k hk hr => hs k hr hk)
theorem FrS.below {S : Nat → Prop} {N : Nat} {w0 a b : World} (h : FrS S a b) (hB : Below N w0 a) (hN : N ≤ a.heap.size) (hs : ∀ k, S k → N ≤ k) : Below N w0 b :=
  ⟨h.os.trans hB.os, h.tape.trans hB.tape, h.output.trans hB.output, Nat.le_trans hB.size h.size, fun k hk => (h.keep k (by omega) (fun h2 => by have := hs k h2; omega)).trans (hB.block k hk)⟩
theorem Blk.frS {S : Nat → Prop} {w w' : World} {b : Nat} {cs : List Value} (h : Blk w b cs) (hF : FrS S w w') (hb : ¬ S b) : Blk w' b cs := h.keep (hF.keep b h.lt hb)
theorem own_keepB {w w' : World} {base e size n : Nat} {v : Value} {xs : List Value} (h : w.ownsRow base e size v n xs) (hk : ∀ g, v.ownBlock = some g → w'.heap[g]? = w.heap[g]?) : w'.ownsRow base e size v n xs := by
  obtain ⟨h1, h2⟩ := h
  refine ⟨h1, h2.imp id ?_⟩
  rintro ⟨g, cap, cur, rfl, h4, h5, h6⟩
  exact ⟨g, cap, cur, rfl, h4, (hk g rfl).trans h5, h6⟩
theorem own_frS {S : Nat → Prop} {w w' : World} {base e size n : Nat} {v : Value} {xs : List Value} (h : w.ownsRow base e size v n xs) (hF : FrS S w w') (hb : ∀ g, v.ownBlock = some g → ¬ S g) : w'.ownsRow base e size v n xs :=
  own_keepB h fun g hg => hF.keep g (h.lt g hg).2 (hb g hg)
/-- the beginning of an owned row -/
theorem own_prefix {w : World} {base e n m : Nat} {b : Option Addr} {c : Nat} {xs ys : List Value} (h : w.ownsRow base e 1 (.slice b (n + m) c) (n + m) (xs ++ ys)) (hx : xs.length = n) (h0 : b = none → c = 0 ∧ n = 0) : w.ownsRow base e 1 (.slice b n c) n xs := by
  obtain ⟨h1, h2⟩ := h
  refine ⟨by simpa using hx, ?_⟩
  rcases h2 with ⟨h3, h4⟩ | ⟨g, cap, cur, h3, h4, h5, h6, h7, h8, h9⟩
  · left
    injection h3 with hb _ _
    obtain ⟨rfl, rfl⟩ := h0 hb
    subst hb
    exact ⟨rfl, rfl⟩
  · right
    injection h3 with hb _ hc
    subst hb; subst hc
    refine ⟨g, _, cur, rfl, h4, h5, by omega, h7, h8, ?_⟩
    have := congrArg (List.take n) h9
    rw [List.take_take, Nat.mul_one] at this
    rw [Nat.mul_one]
    rw [Nat.min_eq_left (by omega)] at this
    rw [this, ← hx, List.take_left]

theorem own_block_ge {w : World} {base e size n : Nat} {v : Value} {xs : List Value} (h : w.ownsRow base e size v n xs) {g : Nat} (hg : v.ownBlock = some g) : base ≤ g := by
  rcases h.2 with ⟨rfl, _⟩ | ⟨g', cap, cur, rfl, h4, _⟩
  · cases hg
  · cases hg; exact h4

theorem run_append_two {P : Program} {w : World} (base : Nat) (t ty e : TypeId) (i : TypeInfo) (z : Value) (size bytes : Nat) (ht : P.underlying t = some (.slice e)) (hi : P.info? e = some i) (hz : i.zero = some z)
    (hsize : i.size = size) (hby : i.bytes = bytes) (hzs : z.cells.size = size) (hsz : 0 < size)
    (v : Value) (n : Nat) (xs : List Value) (hown : w.ownsRow base e size v n xs)
    (a : Addr) (m c : Nat) (news : List Value) (hl : news.length = m * size) (hnews : ∀ j u, news[j]? = some u → w.cell? (a.add j) = some u) (h1 : ∀ u ∈ news, u.oneCell' = true)
    (h63 : n + m ≤ maxLen) (hbytes : (n + m) * bytes ≤ 140737488355328) (hbase : base ≤ w.heap.size) (hm : 0 < m) :
    ∃ v' w', (Builtin.append_ #[t, t] ty #[v, .slice (some a) m c]).run P w = .ok v' w' ∧ w'.ownsRow base e size v' (n + m) (xs ++ news) ∧
      ((∃ g cap, v = .slice (some ⟨g, 0, none⟩) n cap ∧ v' = .slice (some ⟨g, 0, none⟩) (n + m) cap ∧ w.grownBy w' (some g) ∧ g < w.heap.size) ∨
       (Ext w w' ∧ ∃ g cap, v' = .slice (some ⟨g, 0, none⟩) (n + m) cap ∧ w.heap.size ≤ g)) := by
  obtain ⟨v', w', hr, h2, h3, _⟩ := run_append_own (P := P) w base t ty e i z size bytes ht hi hz hsize hby hzs hsz v n xs hown a m c news hl hnews h1 h63 hbytes hbase
  refine ⟨v', w', hr, h2, ?_⟩
  subst hsize
  subst hby
  have hsmall : n + m ≤ 9223372036854775807 := by simp only [maxLen] at h63; omega
  rcases hown.2 with ⟨rfl, rfl⟩ | ⟨g, cap, cur, rfl, hbg, hg, hnc, hcm, hcs, htake⟩
  · right
    have hr2 := run_append_nil (P := P) w t ty e i z ht hi hz a m c news hl hnews hm (by omega) (by have hb := hbytes; simp only [Nat.zero_add] at hb; omega)
    have hq := hr.symm.trans hr2
    injection hq with e1 e2
    subst e1; subst e2
    exact ⟨⟨rfl, rfl, rfl, by simp, fun k hk _ => Below.heap_alloc w.drew _ k hk⟩, _, _, by rw [Nat.zero_add], Nat.le_refl _⟩
  · by_cases hroom : n + m ≤ cap
    · left
      have hfit : n * i.size + news.length ≤ cur.size := by rw [hl, hcs, ← Nat.add_mul]; exact Nat.mul_le_mul_right _ hroom
      have hr2 := run_append_room (P := P) w t ty e i ht hi g n cap cur hg a m c news hl hnews h1 hroom hfit
      have hq := hr.symm.trans hr2
      injection hq with e1 e2
      subst e1
      exact ⟨g, cap, rfl, rfl, h3, (Array.getElem?_eq_some_iff.1 hg).1⟩
    · right
      have holds : ∀ j u, xs[j]? = some u → w.cell? ((⟨g, 0, none⟩ : Addr).add j) = some u := hown.cells (g := g) rfl
      have hr2 := run_append_grow (P := P) w t ty e i z ht hi hz ⟨g, 0, none⟩ n cap xs hown.1 holds a m c news hl hnews (by omega) (by omega) (growslice_fits (by omega) hbytes)
      have hq := hr.symm.trans hr2
      injection hq with e1 e2
      subst e1; subst e2
      exact ⟨⟨rfl, rfl, rfl, by simp, fun k hk _ => Below.heap_alloc w.drew _ k hk⟩, _, _, rfl, Nat.le_refl _⟩

section
variable {P : Program} {ops : Array Oper} {e : Env} {w : World}
variable {d : Option Nat} {ty : TypeId} {pos : String} {af : Array Edge} {g : Option (Nat × Bool)}
/-- append(s, x): in place, or a new array -/
theorem o_append_two {α : Type} {f : α → Value} (xs : List α) (y0 : α) {K : Value → World → Prop} {t el : TypeId} {at_ : Array TypeId} {x y : Operand} {z : Value} {bytes base : Nat} {a : Option Addr} {b2 c c2 : Nat} (ht : P.underlying t = some (.slice el)) (he : Elem P el z 1 bytes) (hat : at_ = #[t, t])
    (hx : ev e x = .slice a xs.length c) (hown : w.ownsRow base el 1 (.slice a xs.length c) xs.length (xs.map f)) (hy : ev e y = .slice (some ⟨b2, 0, none⟩) 1 c2) (hb2 : Blk w b2 [f y0]) (h1 : (f y0).oneCell' = true)
    (hbytes : xs.length + 1 ≤ 140737488355328 ∧ (xs.length + 1) * bytes ≤ 140737488355328) (hbase : base ≤ w.heap.size)
    (hw : wantedE ops e ⟨d, .call ⟨.builtin .append, #[x, y], at_⟩, ty, pos, af, g⟩ = true)
    (h : ∀ g' c' w', w.heap.size ≤ w'.heap.size → w'.ownsRow base el 1 (.slice (some ⟨g', 0, none⟩) (xs ++ [y0]).length c') (xs ++ [y0]).length ((xs ++ [y0]).map f) →
      (((a = some ⟨g', 0, none⟩ ∧ c = c' ∧ w.grownBy w' (some g') ∧ g' < w.heap.size) ∨ (Ext w w' ∧ w.heap.size ≤ g'))) → K (.slice (some ⟨g', 0, none⟩) (xs ++ [y0]).length c') w') :
    EffAt P ops e w ⟨d, .call ⟨.builtin .append, #[x, y], at_⟩, ty, pos, af, g⟩ K := by
  subst hat
  obtain ⟨i, hi, hz, hs, hby⟩ := he.info
  obtain ⟨v', w', hr, h2, h3⟩ := run_append_two (P := P) (w := w) base t ty el i z 1 bytes ht hi hz hs hby he.zs he.pos (.slice a xs.length c) xs.length (xs.map f) hown ⟨b2, 0, none⟩ 1 c2 [f y0] rfl
    (fun j u hj => by rw [Addr.add_lit]; exact hb2.cells0 j u hj) (fun u hu => by have : u = f y0 := by simpa using hu
                                                                                  subst this; exact h1) (by unfold maxLen; omega) hbytes.2 hbase (by decide)
  have hm : (xs ++ [y0]).map f = xs.map f ++ [f y0] := by simp
  have hl : (xs ++ [y0]).length = xs.length + 1 := by simp
  have hrun : (execOp (ev e) ⟨d, .call ⟨.builtin .append, #[x, y], #[t, t]⟩, ty, pos, af, g⟩).run P w = .ok (.value v') w' := by
    simp [execOp, resolve, invoke, builtin, hx, hy, hr]
  rcases h3 with ⟨g', cap, h4, rfl, h5, h6⟩ | ⟨h4, g', cap, rfl, h5⟩
  · injection h4 with ha _ hc
    subst ha; subst hc
    have := h g' c w' h5.size (by rw [hl, hm]; exact h2) (.inl ⟨rfl, rfl, h5, h6⟩)
    rw [hl] at this
    exact e_value hw rfl hrun this
  · have := h g' cap w' h4.size (by rw [hl, hm]; exact h2) (.inr ⟨h4, h5⟩)
    rw [hl] at this
    exact e_value hw rfl hrun this

/-- s == nil -/
theorem q_eql_nil {t el yt : TypeId} {x y : Operand} {a : Option Addr} {n c n' c' : Nat} (ht : P.underlying t = some (.slice el)) (hx : ev e x = .slice a n c) (hy : ev e y = .slice none n' c')
    (hw : wantedE ops e ⟨d, .binOp .eql t x y yt, ty, pos, af, g⟩ = true) : QuietAt P ops e w ⟨d, .binOp .eql t x y yt, ty, pos, af, g⟩ (.bool a.isNone) :=
  .inl ⟨hw, rfl, (by simp [execOp, hx, hy, eqGuard, Lib.run_eql_slice_nil w t el a n c n' c' ht])⟩
end
abbrev Two (a : Option Addr) (c g c' : Nat) (w w' : World) : Prop := (a = some ⟨g, 0, none⟩ ∧ c = c' ∧ w.grownBy w' (some g) ∧ g < w.heap.size) ∨ (Ext w w' ∧ w.heap.size ≤ g)
theorem two_blk {a : Option Addr} {c g c' b : Nat} {w w' : World} {cs : List Value} (hd : Two a c g c' w w') (h : Blk w b cs) (hne : a = some ⟨g, 0, none⟩ → b ≠ g) : Blk w' b cs := by
  rcases hd with ⟨h1, _, h3, _⟩ | ⟨h1, _⟩
  · exact h.upd h3 (hne h1)
  · exact h.ext h1
theorem ob_slice (a : Option Addr) (n c : Nat) : (Value.slice a n c).ownBlock = a.map (·.block) := by cases a <;> rfl
theorem two_grown {a : Option Addr} {c g c' n : Nat} {w w' : World} (hd : Two a c g c' w w') : w.grownBy w' (Value.slice a n c).ownBlock := by
  rcases hd with ⟨h1, _, h3, _⟩ | ⟨h1, _⟩
  · rw [h1]; exact h3
  · exact ⟨h1.os, h1.tape, h1.output, h1.size, fun k hk _ => h1.block k hk (by simp)⟩
theorem own_updlt {w w' : World} {base e size n b : Nat} {v : Value} {xs : List Value} (h : w.ownsRow base e size v n xs) (hg : w.grownBy w' (some b)) (hb : b < base) : w'.ownsRow base e size v n xs :=
  own_keepB h fun g hg' => hg.block g (h.lt g hg').2 (fun he => by have := own_block_ge h hg'; cases he; omega)
/-- the block in which a slice lies, where an append in place turns it -/
theorem grown_refl (row : Option Nat) : ∀ w : World, w.grownBy w row := fun _ => ⟨rfl, rfl, rfl, Nat.le_refl _, fun _ _ _ => rfl⟩
theorem grown_tr (row : Option Nat) : ∀ a b c : World, a.grownBy b row → b.grownBy c row → a.grownBy c row := fun _ _ _ => grown_trans
theorem grown_of_ext {a b : World} (row : Option Nat) (h : Ext a b) : a.grownBy b row := ⟨h.os, h.tape, h.output, h.size, fun k hk _ => h.block k hk (by simp)⟩
theorem OwnsI.frS {S : Nat → Prop} {w w' : World} {B el : Nat} {l : List SV} (h : OwnsI w B el l) (hF : FrS S w w') (hb : ∀ s ∈ l, ∀ g, s.enc.ownBlock = some g → ¬ S g) : OwnsI w' B el l :=
  fun s hs => own_frS (h s hs) hF (hb s hs)
theorem OwnsI.append {w : World} {B el : Nat} {l l' : List SV} (h : OwnsI w B el l) (h' : OwnsI w B el l') : OwnsI w B el (l ++ l') := fun s hs => by
  rcases List.mem_append.1 hs with h1 | h1
  · exact h s h1
  · exact h' s h1
theorem OwnsI.ne {w : World} {B el base' e' size' n' : Nat} {l : List SV} {v' : Value} {xs' : List Value} (h : OwnsI w B el l) (h' : w.ownsRow base' e' size' v' n' xs') (hne : el ≠ e') : ∀ s ∈ l, ∀ g, s.enc.ownBlock = some g → v'.ownBlock ≠ some g := by
  intro s hs g hg he
  rcases own_other (h s hs) h' hne with h1 | h1
  · rw [hg] at h1; cases h1
  · exact h1 (hg.trans he.symm)
end Go.Gv
