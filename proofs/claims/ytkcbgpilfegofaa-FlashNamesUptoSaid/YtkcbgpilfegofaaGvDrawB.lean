/- The law for regions that draw their order, with a class for each operation: which effects may pass which operations. Conditions: none. -/
import Derived.Test.YtkcbgpilfegofaaGvMark
set_option linter.unusedVariables false
set_option linter.unusedSimpArgs false
namespace Go.Gv
open Go Go.RowKit

section
variable {C : Ctx} {ops : Array Oper} {k : List Item} {D : List Deferred}
/-- one walk: eff: the operations that turn the world, or hand back what is not fixed; all others are quiet in every world that Cls lets -/
def Mix2 (P : Program) (ops : Array Oper) (Cls : Nat → World → World → Prop) (ex : Nat → Nat → Bool) (eff : List Nat) (K : Env → World → Prop) : List Nat → Env → World → Prop
  | [], e, w => K e w
  | i :: l, e, w => ∃ o, ops[i]? = some o ∧
      if eff.contains i then EffAt P ops e w o (fun v w' => (∀ y, ex y i = false → Cls y w w') ∧ Mix2 P ops Cls ex eff K l (updo e o.dst v) w')
      else ∃ v, (∀ w', Cls i w w' → QuietAt P ops e w' o v) ∧ Mix2 P ops Cls ex eff K l (updo e o.dst v) w

/-- two neighbours change places: the first is quiet, and neither looks at what the other writes -/
theorem mix_swap2 {P : Program} {Cls : Nat → World → World → Prop} {ex : Nat → Nat → Bool} (hrefl : ∀ y w, Cls y w w) (htrans : ∀ y a b c, Cls y a b → Cls y b c → Cls y a c) {eff : List Nat} {K : Env → World → Prop} {i j : Nat} {l : List Nat} {e : Env} {w : World}
    (hi : eff.contains i = false) (hlj : ex i j = false) {oi oj : Oper} (hoi : ops[i]? = some oi) (hoj : ops[j]? = some oj) (hap : oi.apart ops oj = true) (hsi : notSelect oi = true) (hsj : notSelect oj = true)
    (h : Mix2 P ops Cls ex eff K (i :: j :: l) e w) : Mix2 P ops Cls ex eff K (j :: i :: l) e w := by
  obtain ⟨h1, h2, h3⟩ := Oper.apart_spec hap
  simp only [Mix2] at h ⊢
  obtain ⟨oi', hoi', h⟩ := h
  rw [hoi] at hoi'
  cases hoi'
  simp only [hi, if_neg Bool.false_ne_true] at h
  obtain ⟨vi, hqi, oj', hoj', h⟩ := h
  rw [hoj] at hoj'
  cases hoj'
  refine ⟨oj, hoj, ?_⟩
  by_cases hj : eff.contains j = true
  · simp only [hj, if_true] at h ⊢
    refine ((EffAt.updo hsj h1).1 h).mono fun v w' ⟨hc, hm⟩ => ⟨hc, oi, hoi, ?_⟩
    simp only [hi, if_neg Bool.false_ne_true]
    refine ⟨vi, fun w'' hc' => (QuietAt.updo hsi h3).2 (hqi w'' (htrans _ _ _ _ (hc i hlj) hc')), ?_⟩
    rw [← updo_comm h2]
    exact hm
  · have hj : eff.contains j = false := by simpa using hj
    simp only [hj, if_neg Bool.false_ne_true] at h ⊢
    obtain ⟨vj, hqj, hm⟩ := h
    refine ⟨vj, fun w' hc => (QuietAt.updo hsj h1).1 (hqj w' hc), oi, hoi, ?_⟩
    simp only [hi, if_neg Bool.false_ne_true]
    refine ⟨vi, fun w' hc => (QuietAt.updo hsi h3).2 (hqi w' hc), ?_⟩
    rw [← updo_comm h2]
    exact hm

theorem mix_mono2 {P : Program} {Cls : Nat → World → World → Prop} {ex : Nat → Nat → Bool} {eff : List Nat} {K : Env → World → Prop} {l l' : List Nat} (h : ∀ e w, Mix2 P ops Cls ex eff K l e w → Mix2 P ops Cls ex eff K l' e w) (i : Nat) {e : Env} {w : World}
    (hm : Mix2 P ops Cls ex eff K (i :: l) e w) : Mix2 P ops Cls ex eff K (i :: l') e w := by
  simp only [Mix2] at hm ⊢
  obtain ⟨o, ho, hm⟩ := hm
  refine ⟨o, ho, ?_⟩
  by_cases hi : eff.contains i = true
  · rw [if_pos hi] at hm ⊢
    exact hm.mono fun v w' hx => ⟨hx.1, h _ _ hx.2⟩
  · rw [if_neg hi] at hm ⊢
    obtain ⟨v, hq, hm⟩ := hm
    exact ⟨v, hq, h _ _ hm⟩

/-- what must hold of an operation that is left standing when another goes ahead of it -/
def okPair2 (ops : Array Oper) (ex : Nat → Nat → Bool) (eff : List Nat) (y x : Nat) : Bool :=
  (!eff.contains y && !ex y x) && (match ops[y]?, ops[x]? with
    | some oy, some ox => oy.apart ops ox && notSelect oy && notSelect ox
    | _, _ => false)

theorem mix_pull2 {P : Program} {Cls : Nat → World → World → Prop} {ex : Nat → Nat → Bool} (hrefl : ∀ y w, Cls y w w) (htrans : ∀ y a b c, Cls y a b → Cls y b c → Cls y a c) {eff : List Nat} {K : Env → World → Prop} {x : Nat} {l2 : List Nat} :
    ∀ (l1 : List Nat) (e : Env) (w : World), (∀ y ∈ l1, okPair2 ops ex eff y x = true) → Mix2 P ops Cls ex eff K (l1 ++ x :: l2) e w → Mix2 P ops Cls ex eff K (x :: (l1 ++ l2)) e w
  | [], _, _, _, h => h
  | y :: l1, e, w, hp, h => by
    have hy := hp y (by simp)
    unfold okPair2 at hy
    simp only [Bool.and_eq_true, Bool.not_eq_true'] at hy
    obtain ⟨⟨hq, hlj⟩, hy⟩ := hy
    have h' : Mix2 P ops Cls ex eff K (y :: x :: (l1 ++ l2)) e w := mix_mono2 (fun e w hm => mix_pull2 hrefl htrans l1 e w (fun z hz => hp z (by simp [hz])) hm) y h
    cases hoy : ops[y]? with
    | none => simp [hoy] at hy
    | some oy =>
      cases hox : ops[x]? with
      | none => simp [hox, hoy] at hy
      | some ox =>
        simp only [hox, hoy, Bool.and_eq_true] at hy
        exact mix_swap2 hrefl htrans hq hlj hoy hox hy.1.1 hy.1.2 hy.2 h'

/-- each pair of the order: either the earlier one stands before the later one by edges, or it may be left standing -/
def pairsOk2 (ops : Array Oper) (ex : Nat → Nat → Bool) (eff : List Nat) (f : Nat) : List Nat → Bool
  | [] => true
  | y :: l => l.all (fun x => okPair2 ops ex eff y x || rchB ops f x y) && pairsOk2 ops ex eff f l
def orderOk2 (ops : Array Oper) (ex : Nat → Nat → Bool) (eff : List Nat) (f : Nat) (c : List Nat) : Bool :=
  pairsOk2 ops ex eff f c && c.length == ops.size && nodupB c && c.all (fun i => decide (i < ops.size)) && (List.range ops.size).all (fun i => c.contains i) &&
    (List.range ops.size).all (fun i => match ops[i]? with | some o => o.after.all (fun e => !Region.binds .any e || decide (e.on < i)) | none => true)

theorem pairsOk_spec2 {ex : Nat → Nat → Bool} {eff : List Nat} {f x : Nat} : ∀ {l1 l2 : List Nat}, pairsOk2 ops ex eff f (l1 ++ x :: l2) = true → ∀ y ∈ l1, okPair2 ops ex eff y x = true ∨ Rch ops x y
  | [], _, _, _, hy => by simp at hy
  | z :: l1, l2, h, y, hy => by
    simp only [List.cons_append, pairsOk2, Bool.and_eq_true, List.all_eq_true, Bool.or_eq_true] at h
    rcases List.mem_cons.1 hy with rfl | hy
    · exact (h.1 x (by simp)).imp id rchB_spec
    · exact pairsOk_spec2 h.2 y hy
theorem pairsOk_sub2 {ex : Nat → Nat → Bool} {eff : List Nat} {f : Nat} : ∀ {l l' : List Nat}, List.Sublist l' l → pairsOk2 ops ex eff f l = true → pairsOk2 ops ex eff f l' = true
  | _, _, .slnil, _ => rfl
  | _, _, .cons _ hs, h => by simp only [pairsOk2, Bool.and_eq_true] at h; exact pairsOk_sub2 hs h.2
  | _, _, .cons_cons _ hs, h => by
    simp only [pairsOk2, Bool.and_eq_true, List.all_eq_true] at h ⊢
    exact ⟨fun x hx => h.1 x (hs.subset hx), pairsOk_sub2 hs h.2⟩

/-- one walk serves every order -/
theorem mix_sound2 {Cls : Nat → World → World → Prop} {ex : Nat → Nat → Bool} (hrefl : ∀ y w, Cls y w w) (htrans : ∀ y a b c, Cls y a b → Cls y b c → Cls y a c) {eff : List Nat} {f : Nat} (hops : ops.all (opOk C.n) = true)
    (hbk : ∀ (i : Nat) (o : Oper), ops[i]? = some o → ∀ ed ∈ o.after, Region.binds .any ed = true → ed.on < i) :
    ∀ (fuel t : Nat) (listed : Array Bool) (l : List Nat) (e : Env) (w : World), listed.size = ops.size → (∀ i, i < ops.size → (listed.getD i true = false ↔ i ∈ l)) → (∀ i ∈ l, i < ops.size) → l.Nodup → l.length ≤ fuel →
      ClosedUp ops listed → pairsOk2 ops ex eff f l = true → Mix2 C.P ops Cls ex eff (fun e w => Runs C k e D w) l e w →
      Runs C (.inRegion ops (Region.linearise.go .any ops fuel t listed []) :: k) e D w := by
  have done : ∀ (e : Env) (w : World), Runs C k e D w → Runs C (.inRegion ops [] :: k) e D w := fun e w h =>
    (l_nil (ops := ops) h) hops [] rfl
  have nonempty : ∀ (listed : Array Bool) (l : List Nat), listed.size = ops.size → (∀ i, i < ops.size → (listed.getD i true = false ↔ i ∈ l)) → (∀ i ∈ l, i < ops.size) → l ≠ [] → Region.ready .any ops listed ≠ [] := by
    intro listed l hsz hl hlt hne hr
    have : ∀ n i, i ≤ n → i ∈ l → False := by
      intro n
      induction n with
      | zero =>
        intro i hi hil
        obtain rfl : i = 0 := by omega
        have h0 := hlt 0 hil
        have : (0 : Nat) ∈ Region.ready .any ops listed := mem_ready.2 ⟨(hl 0 h0).2 hil, _, Array.getElem?_eq_getElem h0, fun ed hed hb => absurd (hbk 0 _ (Array.getElem?_eq_getElem h0) ed hed hb) (by omega)⟩
        rw [hr] at this
        simp at this
      | succ n ih =>
        intro i hi hil
        have h0 := hlt i hil
        have : i ∈ Region.ready .any ops listed := mem_ready.2 ⟨(hl i h0).2 hil, _, Array.getElem?_eq_getElem h0, fun ed hed hb => by
          have hlt' := hbk i _ (Array.getElem?_eq_getElem h0) ed hed hb
          have hon : ed.on < ops.size := by omega
          by_cases hm : ed.on ∈ l
          · exact (ih ed.on (by omega) hm).elim
          · have := mt (hl ed.on hon).1 hm
            have hs : ed.on < listed.size := by omega
            simp [hs] at this ⊢
            exact this⟩
        rw [hr] at this
        simp at this
    cases l with
    | nil => exact hne rfl
    | cons i l => exact this i i (Nat.le_refl _) (by simp)
  intro fuel
  induction fuel with
  | zero =>
    intro t listed l e w _ _ _ _ hf _ _ h
    have : l = [] := List.eq_nil_of_length_eq_zero (by omega)
    subst this
    simp only [Region.linearise.go, List.reverse_nil]
    exact done e w h
  | succ fuel ih =>
    intro t listed l e w hsz hl hlt hnd hf hcl hpairs h
    simp only [Region.linearise.go]
    change Runs C (.inRegion ops (match (Region.ready .any ops listed)[t % (Region.ready .any ops listed).length]? with
      | some i => Region.linearise.go .any ops fuel (t / (Region.ready .any ops listed).length) (listed.setIfInBounds i true) [i]
      | none => [].reverse) :: k) e D w
    cases hi : (Region.ready .any ops listed)[t % (Region.ready .any ops listed).length]? with
    | none =>
      have hnil : Region.ready .any ops listed = [] := by
        cases hr : Region.ready .any ops listed with
        | nil => rfl
        | cons x xs =>
          rw [hr] at hi
          have hlt : t % (x :: xs).length < (x :: xs).length := Nat.mod_lt _ (by simp)
          simp at hi
          simp at hlt
          omega
      have : l = [] := by
        cases hl' : l with
        | nil => rfl
        | cons a b => exact absurd hnil (nonempty listed l hsz hl hlt (by rw [hl']; simp))
      subst this
      exact done e w h
    | some x =>
      simp only []
      rw [linearise_go_acc, List.reverse_singleton, List.singleton_append]
      obtain ⟨hun, o, ho, hpre⟩ := mem_ready.1 (List.mem_of_getElem? hi)
      have hxs : x < ops.size := (Array.getElem?_eq_some_iff.1 ho).1
      obtain ⟨l1, l2, rfl⟩ := List.append_of_mem ((hl x hxs).1 hun)
      have hp : ∀ y ∈ l1, okPair2 ops ex eff y x = true := by
        intro y hy
        rcases pairsOk_spec2 hpairs y hy with h | h
        · exact h
        · have hly := h.listed hcl o ho hpre
          have hyl : y ∈ l1 ++ x :: l2 := by simp [hy]
          have hys := hlt y hyl
          have := (hl y hys).2 hyl
          have hs : y < listed.size := by omega
          simp [hs] at this hly
          rw [this] at hly
          cases hly
      have hm := mix_pull2 hrefl htrans l1 e w hp h
      simp only [Mix2] at hm
      obtain ⟨o', ho', hm⟩ := hm
      rw [ho] at ho'
      cases ho'
      have hnx : x ∉ l1 ++ l2 := by
        have := (List.perm_middle (a := x) (l₁ := l1) (l₂ := l2)).nodup_iff.1 hnd
        exact (List.nodup_cons.1 this).1
      have next : ∀ e' w', Mix2 C.P ops Cls ex eff (fun e w => Runs C k e D w) (l1 ++ l2) e' w' →
          Runs C (.inRegion ops (Region.linearise.go .any ops fuel (t / (Region.ready .any ops listed).length) (listed.setIfInBounds x true) []) :: k) e' D w' := by
        intro e' w' h'
        refine ih _ (listed.setIfInBounds x true) (l1 ++ l2) e' w' (by simpa using hsz) ?_ ?_ ?_ ?_ ?_ ?_ h'
        · intro i hi'
          rw [getD_set (by omega)]
          by_cases hxi : x = i
          · subst hxi; simpa using hnx
          · rw [if_neg hxi, hl i hi']
            have : i ≠ x := fun h => hxi h.symm
            simp [this]
        · intro i hi'
          rcases List.mem_append.1 hi' with h | h
          · exact hlt i (by simp [h])
          · exact hlt i (by simp [h])
        · have := (List.perm_middle (a := x) (l₁ := l1) (l₂ := l2)).nodup_iff.1 hnd
          exact (List.nodup_cons.1 this).2
        · simp at hf ⊢; omega
        · intro i o2 ho2 hli ed hed hb
          have hon : ed.on < i := hbk i o2 ho2 ed hed hb
          rw [getD_set (by omega)] at hli ⊢
          by_cases hxo : x = ed.on
          · simp [hxo]
          · rw [if_neg hxo]
            by_cases hxi : x = i
            · subst hxi
              rw [ho] at ho2
              cases ho2
              exact hpre ed hed hb
            · rw [if_neg hxi] at hli
              exact hcl i o2 ho2 hli ed hed hb
        · exact pairsOk_sub2 (List.Sublist.append (List.Sublist.refl _) (List.sublist_cons_self _ _)) hpairs
      refine i_o hops ho ?_
      by_cases he : eff.contains x = true
      · rw [if_pos he] at hm
        exact hm.mono fun v w' hx => next _ _ hx.2
      · rw [if_neg he] at hm
        obtain ⟨v, hq, hm⟩ := hm
        exact (hq w (hrefl _ w)).eff (next _ _ hm)

theorem r_draw2 {id : Nat} {l : List Oper} {Cls : Nat → World → World → Prop} {ex : Nat → Nat → Bool} (hrefl : ∀ y w, Cls y w w) (htrans : ∀ y a b c, Cls y a b → Cls y b c → Cls y a c) (c eff : List Nat) (f : Nat) (hm : C.P.follows .mixedOrders = true)
    (hc : orderOk2 l.toArray ex eff f c = true) {e : Env} {w : World}
    (h : ∀ w1, w1.heap = w.heap → Ext w w1 → Mix2 C.P l.toArray Cls ex eff (fun e w => Runs C k e D w) c e w1) : Runs C (.code (.region id l.toArray true) :: k) e D w := by
  intro hk a b cs ha hD hf hr hki hcs
  have hops : l.toArray.all (opOk C.n) = true := (stackOk_cons.1 hk).1
  unfold orderOk2 at hc
  simp only [Bool.and_eq_true, List.all_eq_true, beq_iff_eq, List.mem_range] at hc
  obtain ⟨⟨⟨⟨⟨hp, hlen⟩, hnd⟩, hltc⟩, hall⟩, hbk⟩ := hc
  have hnd := nodupB_spec hnd
  have hltc : ∀ i ∈ c, i < l.toArray.size := fun i hi => of_decide_eq_true (hltc i hi)
  have hbk' : ∀ (i : Nat) (o : Oper), l.toArray[i]? = some o → ∀ ed ∈ o.after, Region.binds .any ed = true → ed.on < i := by
    intro i o ho ed hed hb
    have := hbk i (Array.getElem?_eq_some_iff.1 ho).1
    rw [ho] at this
    simp only [Array.all_eq_true_iff_forall_mem, Bool.or_eq_true, Bool.not_eq_true', decide_eq_true_eq] at this
    rcases this ed hed with h | h
    · rw [hb] at h; cases h
    · exact h
  have hstep := stepR_region_draw (P := C.P) (b := b) (a := a) (k := k) (cs := cs) (w := w) (ops := l.toArray) (id := id)
  have hrun := mix_sound2 (k := k) (D := D) hrefl htrans hops hbk' l.toArray.size (w.tape w.drawn (.order b.fn id)) (Array.replicate l.toArray.size false) c e { w with drawn := w.drawn + 1 } (by simp)
    (fun i hi => by
      have := hall i hi
      simp only [List.contains_iff_mem] at this
      have hi' : i < l.length := by simpa using hi
      simp [hi', this]) hltc hnd (by omega)
    (fun i o ho hli => by
      have hi : i < l.length := by simpa using (Array.getElem?_eq_some_iff.1 ho).1
      simp [hi] at hli) hp (h { w with drawn := w.drawn + 1 } rfl ⟨rfl, rfl, rfl, Nat.le_refl _, fun _ _ _ => rfl⟩)
  obtain ⟨v, w₂, m', hR, hst, hl⟩ := hrun (stackOk_cons.2 ⟨hops, (stackOk_cons.1 hk).2⟩) a b cs ha hD hf hr hki hcs
  refine ⟨v, w₂, m', hR, .head hstep ?_, hl⟩
  simp only [Region.schedule, hm, Bool.true_or, if_true]
  exact hst

/-- a quiet step of the walk -/
theorem m_q2 {P : Program} {Cls : Nat → World → World → Prop} {ex : Nat → Nat → Bool} {eff : List Nat} {K : Env → World → Prop} {i : Nat} {o : Oper} {l : List Nat} {e : Env} {w : World} {v : Value} (ho : ops[i]? = some o) (hi : eff.contains i = false)
    (hq : ∀ w', Cls i w w' → QuietAt P ops e w' o v) (h : Mix2 P ops Cls ex eff K l (updo e o.dst v) w) : Mix2 P ops Cls ex eff K (i :: l) e w := by
  simp only [Mix2]
  exact ⟨o, ho, by rw [if_neg (by rw [hi]; simp)]; exact ⟨v, hq, h⟩⟩
theorem m_o2 {P : Program} {Cls : Nat → World → World → Prop} {ex : Nat → Nat → Bool} {eff : List Nat} {K : Env → World → Prop} {i : Nat} {o : Oper} {l : List Nat} {e : Env} {w : World} (ho : ops[i]? = some o) (hi : eff.contains i = true)
    (h : EffAt P ops e w o (fun v w' => (∀ y, ex y i = false → Cls y w w') ∧ Mix2 P ops Cls ex eff K l (updo e o.dst v) w')) : Mix2 P ops Cls ex eff K (i :: l) e w := by
  simp only [Mix2]
  exact ⟨o, ho, by rw [if_pos hi]; exact h.mono fun v w' h => ⟨h.1, h.2⟩⟩
theorem m_nil2 {P : Program} {Cls : Nat → World → World → Prop} {ex : Nat → Nat → Bool} {eff : List Nat} {K : Env → World → Prop} {e : Env} {w : World} (h : K e w) : Mix2 P ops Cls ex eff K [] e w := h
theorem m_part2 {P : Program} {Cls : Nat → World → World → Prop} {ex : Nat → Nat → Bool} {eff : List Nat} {K : Env → World → Prop} {l : List Nat} {e : Env} {w : World} (s : Nat) {b : Bool} (hb : e s = .bool b)
    (ht : b = true → Mix2 P ops Cls ex eff K l (upd e s (.bool true)) w) (hf : b = false → Mix2 P ops Cls ex eff K l (upd e s (.bool false)) w) : Mix2 P ops Cls ex eff K l e w := by
  cases b with
  | true => have := ht rfl; rwa [upd_same hb] at this
  | false => have := hf rfl; rwa [upd_same hb] at this

def ClsB (b : Nat) (cs : List Value) (t : Nat) (y : Nat) (w w' : World) : Prop := if y ≤ t then Ext w w' else (Blk w b cs → Blk w' b cs)
theorem ClsB.refl (b : Nat) (cs : List Value) (t : Nat) : ∀ y w, ClsB b cs t y w w := fun y w => by
  unfold ClsB; split
  · exact Ext.refl w
  · exact fun h => h
theorem ClsB.trans (b : Nat) (cs : List Value) (t : Nat) : ∀ y u v w, ClsB b cs t y u v → ClsB b cs t y v w → ClsB b cs t y u w := fun y u v w h h' => by
  unfold ClsB at *; split
  · rename_i hy; rw [if_pos hy] at h h'; exact h.trans h'
  · rename_i hy; rw [if_neg hy] at h h'; exact fun x => h' (h x)
theorem ClsB.ext {b : Nat} {cs : List Value} {t : Nat} {w w' : World} (h : Ext w w') (y : Nat) : ClsB b cs t y w w' := by
  unfold ClsB; split
  · exact h
  · exact fun x => x.ext h
theorem ClsB.hi {b : Nat} {cs : List Value} {t y : Nat} {w w' : World} (hy : ¬ y ≤ t) (h : Blk w b cs → Blk w' b cs) : ClsB b cs t y w w' := by unfold ClsB; rw [if_neg hy]; exact h
theorem ClsB.lo {b : Nat} {cs : List Value} {t y : Nat} {w w' : World} (h : ClsB b cs t y w w') (hy : y ≤ t) : Ext w w' := by unfold ClsB at h; rwa [if_pos hy] at h
theorem ClsB.get {b : Nat} {cs : List Value} {t y : Nat} {w w' : World} (h : ClsB b cs t y w w') (hy : ¬ y ≤ t) (hb : Blk w b cs) : Blk w' b cs := by unfold ClsB at h; rw [if_neg hy] at h; exact h hb
end
end Go.Gv
