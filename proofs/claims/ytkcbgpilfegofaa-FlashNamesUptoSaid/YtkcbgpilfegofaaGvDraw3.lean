/- The law for regions that draw their order, where some effects are in no order: a tree of orders. Conditions: none. -/
import Derived.Test.YtkcbgpilfegofaaGvDrawB
set_option linter.unusedVariables false
set_option linter.unusedSimpArgs false
namespace Go.Gv
open Go Go.RowKit
/-- a tree of orders: op: this one is next; fork: this one may be next, or the other tree -/
inductive Ord3 where
  | done
  | op (i : Nat) (t : Ord3)
  | fork (i : Nat) (a b : Ord3)
def Ord3.elems : Ord3 → List Nat
  | .done => []
  | .op i t => i :: t.elems
  | .fork i a _ => i :: a.elems
section
variable {C : Ctx} {ops : Array Oper} {k : List Item} {D : List Deferred}
def Mix3 (P : Program) (ops : Array Oper) (Cls : World → World → Prop) (eff : List Nat) (K : Env → World → Prop) : Ord3 → Env → World → Prop
  | .done, e, w => K e w
  | .op i t, e, w => ∃ o, ops[i]? = some o ∧
      if eff.contains i then EffAt P ops e w o (fun v w' => (eff.contains (i + 1000) = false → Cls w w') ∧ Mix3 P ops Cls eff K t (updo e o.dst v) w')
      else ∃ v, (∀ w', Cls w w' → QuietAt P ops e w' o v) ∧ Mix3 P ops Cls eff K t (updo e o.dst v) w
  | .fork i a b, e, w => (∃ o, ops[i]? = some o ∧
      if eff.contains i then EffAt P ops e w o (fun v w' => (eff.contains (i + 1000) = false → Cls w w') ∧ Mix3 P ops Cls eff K a (updo e o.dst v) w')
      else ∃ v, (∀ w', Cls w w' → QuietAt P ops e w' o v) ∧ Mix3 P ops Cls eff K a (updo e o.dst v) w) ∧ Mix3 P ops Cls eff K b e w
/-- x is taken out: quiet operations may be left standing -/
def Ord3.pull (ops : Array Oper) (eff : List Nat) (x : Nat) : Ord3 → Option Ord3
  | .done => none
  | .op i t => if i = x then some t else if okPair ops eff i x then (Ord3.pull ops eff x t).map (.op i) else none
  | .fork i a b => if i = x then some a else Ord3.pull ops eff x b
variable {P : Program} {Cls : World → World → Prop} {eff : List Nat} {K : Env → World → Prop}
theorem mix_swap3 (hrefl : ∀ w, Cls w w) (htrans : ∀ a b c, Cls a b → Cls b c → Cls a c) {i j : Nat} {t : Ord3} {e : Env} {w : World}
    (hp : okPair ops eff i j = true) (h : Mix3 P ops Cls eff K (.op i (.op j t)) e w) : Mix3 P ops Cls eff K (.op j (.op i t)) e w := by
  unfold okPair at hp
  simp only [Bool.and_eq_true, Bool.not_eq_true'] at hp
  obtain ⟨⟨hi, hlj⟩, hy⟩ := hp
  cases hoi : ops[i]? with
  | none => simp [hoi] at hy
  | some oi =>
    cases hoj : ops[j]? with
    | none => simp [hoj, hoi] at hy
    | some oj =>
      simp only [hoi, hoj, Bool.and_eq_true] at hy
      obtain ⟨⟨hap, hsi⟩, hsj⟩ := hy
      obtain ⟨h1, h2, h3⟩ := Oper.apart_spec hap
      simp only [Mix3] at h ⊢
      obtain ⟨oi', hoi', h⟩ := h
      rw [hoi] at hoi'
      cases hoi'
      simp only [hi, if_neg Bool.false_ne_true] at h
      obtain ⟨vi, hqi, oj', hoj', h⟩ := h
      rw [hoj] at hoj'
      cases hoj'
      refine ⟨oj, hoj, ?_⟩
      by_cases hj : eff.contains j = true
      · simp only [hj, if_true] at h ⊢
        refine ((EffAt.updo hsj h1).1 h).mono fun v w' ⟨hc, hm⟩ => ⟨hc, oi, hoi, ?_⟩
        simp only [hi, if_neg Bool.false_ne_true]
        refine ⟨vi, fun w'' hc' => (QuietAt.updo hsi h3).2 (hqi w'' (htrans _ _ _ (hc hlj) hc')), ?_⟩
        rw [← updo_comm h2]
        exact hm
      · have hj : eff.contains j = false := by simpa using hj
        simp only [hj, if_neg Bool.false_ne_true] at h ⊢
        obtain ⟨vj, hqj, hm⟩ := h
        refine ⟨vj, fun w' hc => (QuietAt.updo hsj h1).1 (hqj w' hc), oi, hoi, ?_⟩
        simp only [hi, if_neg Bool.false_ne_true]
        refine ⟨vi, fun w' hc => (QuietAt.updo hsi h3).2 (hqi w' hc), ?_⟩
        rw [← updo_comm h2]
        exact hm
theorem mix_mono3 {t t' : Ord3} (h : ∀ e w, Mix3 P ops Cls eff K t e w → Mix3 P ops Cls eff K t' e w) (i : Nat) {e : Env} {w : World}
    (hm : Mix3 P ops Cls eff K (.op i t) e w) : Mix3 P ops Cls eff K (.op i t') e w := by
  simp only [Mix3] at hm ⊢
  obtain ⟨o, ho, hm⟩ := hm
  refine ⟨o, ho, ?_⟩
  by_cases hi : eff.contains i = true
  · rw [if_pos hi] at hm ⊢
    exact hm.mono fun v w' hx => ⟨hx.1, h _ _ hx.2⟩
  · rw [if_neg hi] at hm ⊢
    obtain ⟨v, hq, hm⟩ := hm
    exact ⟨v, hq, h _ _ hm⟩
theorem mix_pull3 (hrefl : ∀ w, Cls w w) (htrans : ∀ a b c, Cls a b → Cls b c → Cls a c) {x : Nat} : ∀ (t t' : Ord3) (e : Env) (w : World), t.pull ops eff x = some t' → Mix3 P ops Cls eff K t e w → Mix3 P ops Cls eff K (.op x t') e w
  | .done, _, _, _, h, _ => by simp [Ord3.pull] at h
  | .op i t, t', e, w, h, hm => by
    unfold Ord3.pull at h
    split at h
    · rename_i hi; injection h with h; subst hi; subst h; exact hm
    · split at h
      · rename_i hok
        obtain ⟨t'', h1, rfl⟩ := Option.map_eq_some_iff.1 h
        exact mix_swap3 hrefl htrans hok (mix_mono3 (fun e w hm => mix_pull3 hrefl htrans t t'' e w h1 hm) i hm)
      · cases h
  | .fork i a b, t', e, w, h, hm => by
    unfold Ord3.pull at h
    simp only [Mix3] at hm
    split at h
    · rename_i hi; injection h with h; subst hi; subst h
      simp only [Mix3]; exact hm.1
    · exact mix_pull3 hrefl htrans b t' e w h hm.2

/-- may the scheduler take what it will? -/
def Ord3.subset (l m : List Nat) : Bool := l.all (fun i => m.contains i)
mutual
def Ord3.good (ops : Array Oper) (eff : List Nat) (f : Nat) : Ord3 → Bool
  | .done => true
  | .op i t => t.elems.all (fun x => okPair ops eff i x || rchB ops f x i) && !t.elems.contains i && Ord3.good ops eff f t
  | .fork i a b => !a.elems.contains i && Ord3.good ops eff f a && (b.elems.length == a.elems.length + 1) && Ord3.subset (i :: a.elems) b.elems && Ord3.subset b.elems (i :: a.elems) && Ord3.goodX ops eff f [i] b
def Ord3.goodX (ops : Array Oper) (eff : List Nat) (f : Nat) (S : List Nat) : Ord3 → Bool
  | .done => false
  | .op j t => t.elems.all (fun x => S.contains x || rchB ops f x j) && !t.elems.contains j && Ord3.good ops eff f t
  | .fork i a b => !a.elems.contains i && Ord3.good ops eff f a && (b.elems.length == a.elems.length + 1) && Ord3.subset (i :: a.elems) b.elems && Ord3.subset b.elems (i :: a.elems) && Ord3.goodX ops eff f (i :: S) b
end
theorem sub_spec {l m : List Nat} (h : Ord3.subset l m = true) : ∀ y, y ∈ l → y ∈ m := fun y hy => by
  have := List.all_eq_true.1 h y hy
  simpa using this
/-- what is left when x has been taken -/
def Lft3 (t t' : Ord3) (x : Nat) : Prop := (∀ y, y ∈ t'.elems ↔ (y ∈ t.elems ∧ y ≠ x)) ∧ t'.elems.length + 1 = t.elems.length
theorem left_op {i : Nat} {t : Ord3} (h : ¬ i ∈ t.elems) : Lft3 (.op i t) t i := by
  refine ⟨fun y => ?_, rfl⟩
  simp only [Ord3.elems, List.mem_cons]
  constructor
  · exact fun hy => ⟨.inr hy, fun he => h (he ▸ hy)⟩
  · rintro ⟨rfl | hy, hne⟩
    · exact absurd rfl hne
    · exact hy
theorem left_of_eq {t b t' : Ord3} {x : Nat} (h : Lft3 b t' x) (he : ∀ y, y ∈ b.elems ↔ y ∈ t.elems) (hl : b.elems.length = t.elems.length) : Lft3 t t' x :=
  ⟨fun y => by rw [h.1 y, he y], by rw [h.2, hl]⟩
mutual
theorem good_pull {f x : Nat} : ∀ (t : Ord3), Ord3.good ops eff f t = true → x ∈ t.elems → (∀ y ∈ t.elems, ¬ Rch ops x y) → ∃ t', t.pull ops eff x = some t' ∧ Ord3.good ops eff f t' = true ∧ Lft3 t t' x
  | .done, _, hx, _ => by simp [Ord3.elems] at hx
  | .op i t, hg, hx, hr => by
    unfold Ord3.good at hg
    simp only [Bool.and_eq_true, Bool.not_eq_true', List.all_eq_true, Bool.or_eq_true] at hg
    obtain ⟨⟨hp, hni⟩, hgt⟩ := hg
    have hni : ¬ i ∈ t.elems := by simpa using hni
    by_cases hix : i = x
    · subst hix
      exact ⟨t, by rw [Ord3.pull, if_pos rfl], hgt, left_op hni⟩
    · have hxt : x ∈ t.elems := by
        simp only [Ord3.elems, List.mem_cons] at hx
        exact hx.resolve_left (fun h => hix h.symm)
      have hok : okPair ops eff i x = true := (hp x hxt).resolve_right (fun h => hr i (by simp [Ord3.elems]) (rchB_spec h))
      obtain ⟨t', h1, h2, h3⟩ := good_pull t hgt hxt (fun y hy => hr y (by simp [Ord3.elems, hy]))
      refine ⟨.op i t', by rw [Ord3.pull, if_neg hix, if_pos hok, h1]; rfl, ?_, ?_⟩
      · unfold Ord3.good
        simp only [Bool.and_eq_true, Bool.not_eq_true', List.all_eq_true, Bool.or_eq_true]
        refine ⟨⟨fun y hy => hp y ((h3.1 y).1 hy).1, ?_⟩, h2⟩
        have : ¬ i ∈ t'.elems := fun h => hni ((h3.1 i).1 h).1
        simpa using this
      · refine ⟨fun y => ?_, by simp only [Ord3.elems, List.length_cons]; rw [h3.2]⟩
        simp only [Ord3.elems, List.mem_cons]
        rw [h3.1 y]
        constructor
        · rintro (rfl | ⟨h, h'⟩)
          · exact ⟨.inl rfl, hix⟩
          · exact ⟨.inr h, h'⟩
        · rintro ⟨rfl | h, h'⟩
          · exact .inl rfl
          · exact .inr ⟨h, h'⟩
  | .fork i a b, hg, hx, hr => by
    unfold Ord3.good at hg
    simp only [Bool.and_eq_true, Bool.not_eq_true', beq_iff_eq] at hg
    obtain ⟨⟨⟨⟨⟨hni, hga⟩, hl⟩, hs1⟩, hs2⟩, hgb⟩ := hg
    have hni : ¬ i ∈ a.elems := by simpa using hni
    by_cases hix : i = x
    · subst hix
      refine ⟨a, by rw [Ord3.pull, if_pos rfl], hga, ?_⟩
      exact ⟨(left_op hni).1, rfl⟩
    · obtain ⟨t', h1, h2, h3⟩ := goodX_pull b [i] hgb (sub_spec hs1 x hx) (by simpa using fun h => hix h.symm) (fun y hy => hr y (sub_spec hs2 y hy))
      exact ⟨t', by rw [Ord3.pull, if_neg hix]; exact h1, h2, left_of_eq h3 (fun y => ⟨sub_spec hs2 y, sub_spec hs1 y⟩) hl⟩
theorem goodX_pull {f x : Nat} : ∀ (t : Ord3) (S : List Nat), Ord3.goodX ops eff f S t = true → x ∈ t.elems → ¬ x ∈ S → (∀ y ∈ t.elems, ¬ Rch ops x y) → ∃ t', t.pull ops eff x = some t' ∧ Ord3.good ops eff f t' = true ∧ Lft3 t t' x
  | .done, S, hg, _, _, _ => by simp [Ord3.goodX] at hg
  | .op j t, S, hg, hx, hS, hr => by
    unfold Ord3.goodX at hg
    simp only [Bool.and_eq_true, Bool.not_eq_true', List.all_eq_true, Bool.or_eq_true] at hg
    obtain ⟨⟨hp, hni⟩, hgt⟩ := hg
    have hni : ¬ j ∈ t.elems := by simpa using hni
    by_cases hix : j = x
    · subst hix
      exact ⟨t, by rw [Ord3.pull, if_pos rfl], hgt, left_op hni⟩
    · have hxt : x ∈ t.elems := by
        simp only [Ord3.elems, List.mem_cons] at hx
        exact hx.resolve_left (fun h => hix h.symm)
      rcases hp x hxt with h | h
      · exact absurd (by simpa using h) hS
      · exact absurd (rchB_spec h) (hr j (by simp [Ord3.elems]))
  | .fork i a b, S, hg, hx, hS, hr => by
    unfold Ord3.goodX at hg
    simp only [Bool.and_eq_true, Bool.not_eq_true', beq_iff_eq] at hg
    obtain ⟨⟨⟨⟨⟨hni, hga⟩, hl⟩, hs1⟩, hs2⟩, hgb⟩ := hg
    have hni : ¬ i ∈ a.elems := by simpa using hni
    by_cases hix : i = x
    · subst hix
      refine ⟨a, by rw [Ord3.pull, if_pos rfl], hga, ?_⟩
      exact ⟨(left_op hni).1, rfl⟩
    · obtain ⟨t', h1, h2, h3⟩ := goodX_pull b (i :: S) hgb (sub_spec hs1 x hx) (by simp only [List.mem_cons]; rintro (h | h); exact hix h.symm; exact hS h) (fun y hy => hr y (sub_spec hs2 y hy))
      exact ⟨t', by rw [Ord3.pull, if_neg hix]; exact h1, h2, left_of_eq h3 (fun y => ⟨sub_spec hs2 y, sub_spec hs1 y⟩) hl⟩
end
theorem elems_nil {t : Ord3} (h : t.elems = []) : t = .done := by
  cases t with
  | done => rfl
  | op i t => simp [Ord3.elems] at h
  | fork i a b => simp [Ord3.elems] at h

theorem mix_sound3 (hrefl : ∀ w, Cls w w) (htrans : ∀ a b c, Cls a b → Cls b c → Cls a c) {f : Nat} (hops : ops.all (opOk C.n) = true)
    (hbk : ∀ (i : Nat) (o : Oper), ops[i]? = some o → ∀ ed ∈ o.after, Region.binds .any ed = true → ed.on < i) :
    ∀ (fuel s : Nat) (listed : Array Bool) (t : Ord3) (e : Env) (w : World), listed.size = ops.size → (∀ i, i < ops.size → (listed.getD i true = false ↔ i ∈ t.elems)) → (∀ i ∈ t.elems, i < ops.size) → t.elems.length ≤ fuel →
      ClosedUp ops listed → Ord3.good ops eff f t = true → Mix3 C.P ops Cls eff (fun e w => Runs C k e D w) t e w →
      Runs C (.inRegion ops (Region.linearise.go .any ops fuel s listed []) :: k) e D w := by
  have done : ∀ (e : Env) (w : World), Runs C k e D w → Runs C (.inRegion ops [] :: k) e D w := fun e w h =>
    (l_nil (ops := ops) h) hops [] rfl
  have nonempty : ∀ (listed : Array Bool) (l : List Nat), listed.size = ops.size → (∀ i, i < ops.size → (listed.getD i true = false ↔ i ∈ l)) → (∀ i ∈ l, i < ops.size) → l ≠ [] → Region.ready .any ops listed ≠ [] := by
    intro listed l hsz hl hlt hne hr
    have : ∀ n i, i ≤ n → i ∈ l → False := by
      intro n
      induction n with
      | zero =>
        intro i hi hil
        obtain rfl : i = 0 := by omega
        have h0 := hlt 0 hil
        have : (0 : Nat) ∈ Region.ready .any ops listed := mem_ready.2 ⟨(hl 0 h0).2 hil, _, Array.getElem?_eq_getElem h0, fun ed hed hb => absurd (hbk 0 _ (Array.getElem?_eq_getElem h0) ed hed hb) (by omega)⟩
        rw [hr] at this
        simp at this
      | succ n ih =>
        intro i hi hil
        have h0 := hlt i hil
        have : i ∈ Region.ready .any ops listed := mem_ready.2 ⟨(hl i h0).2 hil, _, Array.getElem?_eq_getElem h0, fun ed hed hb => by
          have hlt' := hbk i _ (Array.getElem?_eq_getElem h0) ed hed hb
          have hon : ed.on < ops.size := by omega
          by_cases hm : ed.on ∈ l
          · exact (ih ed.on (by omega) hm).elim
          · have := mt (hl ed.on hon).1 hm
            have hs : ed.on < listed.size := by omega
            simp [hs] at this ⊢
            exact this⟩
        rw [hr] at this
        simp at this
    cases l with
    | nil => exact hne rfl
    | cons i l => exact this i i (Nat.le_refl _) (by simp)
  intro fuel
  induction fuel with
  | zero =>
    intro s listed t e w _ _ _ hf _ _ h
    have : t = .done := elems_nil (List.eq_nil_of_length_eq_zero (by omega))
    subst this
    simp only [Region.linearise.go, List.reverse_nil]
    exact done e w h
  | succ fuel ih =>
    intro s listed t e w hsz hl hlt hf hcl hgood h
    simp only [Region.linearise.go]
    change Runs C (.inRegion ops (match (Region.ready .any ops listed)[s % (Region.ready .any ops listed).length]? with
      | some i => Region.linearise.go .any ops fuel (s / (Region.ready .any ops listed).length) (listed.setIfInBounds i true) [i]
      | none => [].reverse) :: k) e D w
    cases hi : (Region.ready .any ops listed)[s % (Region.ready .any ops listed).length]? with
    | none =>
      have hnil : Region.ready .any ops listed = [] := by
        cases hr : Region.ready .any ops listed with
        | nil => rfl
        | cons x xs =>
          rw [hr] at hi
          have hlt : s % (x :: xs).length < (x :: xs).length := Nat.mod_lt _ (by simp)
          simp at hi
          simp at hlt
          omega
      have : t = .done := elems_nil (by
        cases hl' : t.elems with
        | nil => rfl
        | cons a b => exact absurd hnil (nonempty listed t.elems hsz hl hlt (by rw [hl']; simp)))
      subst this
      exact done e w h
    | some x =>
      simp only []
      rw [linearise_go_acc, List.reverse_singleton, List.singleton_append]
      obtain ⟨hun, o, ho, hpre⟩ := mem_ready.1 (List.mem_of_getElem? hi)
      have hxs : x < ops.size := (Array.getElem?_eq_some_iff.1 ho).1
      have hxt := (hl x hxs).1 hun
      obtain ⟨t', hpl, hg', hleft⟩ := good_pull t hgood hxt (fun y hy hrc => by
        have hly := hrc.listed hcl o ho hpre
        have hys := hlt y hy
        have := (hl y hys).2 hy
        have hs : y < listed.size := by omega
        simp [hs] at this hly
        rw [this] at hly
        cases hly)
      have hm := mix_pull3 hrefl htrans t t' e w hpl h
      simp only [Mix3] at hm
      obtain ⟨o', ho', hm⟩ := hm
      rw [ho] at ho'
      cases ho'
      have next : ∀ e' w', Mix3 C.P ops Cls eff (fun e w => Runs C k e D w) t' e' w' →
          Runs C (.inRegion ops (Region.linearise.go .any ops fuel (s / (Region.ready .any ops listed).length) (listed.setIfInBounds x true) []) :: k) e' D w' := by
        intro e' w' h'
        refine ih _ (listed.setIfInBounds x true) t' e' w' (by simpa using hsz) ?_ ?_ ?_ ?_ hg' h'
        · intro i hi'
          rw [getD_set (by omega)]
          by_cases hxi : x = i
          · subst hxi
            rw [if_pos rfl]
            constructor
            · intro h; cases h
            · intro h; exact absurd (Eq.refl x) ((hleft.1 x).1 h).2
          · rw [if_neg hxi, hl i hi', hleft.1 i]
            exact ⟨fun h => ⟨h, fun h' => hxi h'.symm⟩, fun h => h.1⟩
        · intro i hi'
          exact hlt i ((hleft.1 i).1 hi').1
        · have := hleft.2; omega
        · intro i o2 ho2 hli ed hed hb
          have hon : ed.on < i := hbk i o2 ho2 ed hed hb
          rw [getD_set (by omega)] at hli ⊢
          by_cases hxo : x = ed.on
          · simp [hxo]
          · rw [if_neg hxo]
            by_cases hxi : x = i
            · subst hxi
              rw [ho] at ho2
              cases ho2
              exact hpre ed hed hb
            · rw [if_neg hxi] at hli
              exact hcl i o2 ho2 hli ed hed hb
      refine i_o hops ho ?_
      by_cases he : eff.contains x = true
      · rw [if_pos he] at hm
        exact hm.mono fun v w' hx => next _ _ hx.2
      · rw [if_neg he] at hm
        obtain ⟨v, hq, hm⟩ := hm
        exact (hq w (hrefl w)).eff (next _ _ hm)
def treeOk (ops : Array Oper) (eff : List Nat) (f : Nat) (t : Ord3) : Bool :=
  Ord3.good ops eff f t && t.elems.length == ops.size && t.elems.all (fun i => decide (i < ops.size)) && (List.range ops.size).all (fun i => t.elems.contains i) &&
    (List.range ops.size).all (fun i => match ops[i]? with | some o => o.after.all (fun e => !Region.binds .any e || decide (e.on < i)) | none => true)
theorem r_draw3 {id : Nat} {l : List Oper} (hrefl : ∀ w, Cls w w) (htrans : ∀ a b c, Cls a b → Cls b c → Cls a c) (t : Ord3) (eff : List Nat) (f : Nat) (hm : C.P.follows .mixedOrders = true)
    (hc : treeOk l.toArray eff f t = true) {e : Env} {w : World}
    (h : ∀ w1, w1.heap = w.heap → Ext w w1 → Mix3 C.P l.toArray Cls eff (fun e w => Runs C k e D w) t e w1) : Runs C (.code (.region id l.toArray true) :: k) e D w := by
  intro hk a b cs ha hD hf hr hki hcs
  have hops : l.toArray.all (opOk C.n) = true := (stackOk_cons.1 hk).1
  unfold treeOk at hc
  simp only [Bool.and_eq_true, List.all_eq_true, beq_iff_eq, List.mem_range] at hc
  obtain ⟨⟨⟨⟨hp, hlen⟩, hltc⟩, hall⟩, hbk⟩ := hc
  have hltc : ∀ i ∈ t.elems, i < l.toArray.size := fun i hi => of_decide_eq_true (hltc i hi)
  have hbk' : ∀ (i : Nat) (o : Oper), l.toArray[i]? = some o → ∀ ed ∈ o.after, Region.binds .any ed = true → ed.on < i := by
    intro i o ho ed hed hb
    have := hbk i (Array.getElem?_eq_some_iff.1 ho).1
    rw [ho] at this
    simp only [Array.all_eq_true_iff_forall_mem, Bool.or_eq_true, Bool.not_eq_true', decide_eq_true_eq] at this
    rcases this ed hed with h | h
    · rw [hb] at h; cases h
    · exact h
  have hstep := stepR_region_draw (P := C.P) (b := b) (a := a) (k := k) (cs := cs) (w := w) (ops := l.toArray) (id := id)
  have hrun := mix_sound3 (k := k) (D := D) (eff := eff) hrefl htrans hops hbk' l.toArray.size (w.tape w.drawn (.order b.fn id)) (Array.replicate l.toArray.size false) t e { w with drawn := w.drawn + 1 } (by simp)
    (fun i hi => by
      have := hall i hi
      simp only [List.contains_iff_mem] at this
      have hi' : i < l.length := by simpa using hi
      simp [hi', this]) hltc (by omega)
    (fun i o ho hli => by
      have hi : i < l.length := by simpa using (Array.getElem?_eq_some_iff.1 ho).1
      simp [hi] at hli) hp (h { w with drawn := w.drawn + 1 } rfl ⟨rfl, rfl, rfl, Nat.le_refl _, fun _ _ _ => rfl⟩)
  obtain ⟨v, w₂, m', hR, hst, hl⟩ := hrun (stackOk_cons.2 ⟨hops, (stackOk_cons.1 hk).2⟩) a b cs ha hD hf hr hki hcs
  refine ⟨v, w₂, m', hR, .head hstep ?_, hl⟩
  simp only [Region.schedule, hm, Bool.true_or, if_true]
  exact hst
theorem m_q3 {i : Nat} {o : Oper} {t : Ord3} {e : Env} {w : World} {v : Value} (ho : ops[i]? = some o) (hi : eff.contains i = false)
    (hq : ∀ w', Cls w w' → QuietAt P ops e w' o v) (h : Mix3 P ops Cls eff K t (updo e o.dst v) w) : Mix3 P ops Cls eff K (.op i t) e w := by
  simp only [Mix3]
  exact ⟨o, ho, by rw [if_neg (by rw [hi]; simp)]; exact ⟨v, hq, h⟩⟩
theorem m_o3 {i : Nat} {o : Oper} {t : Ord3} {e : Env} {w : World} (ho : ops[i]? = some o) (hi : eff.contains i = true)
    (h : EffAt P ops e w o (fun v w' => Cls w w' ∧ Mix3 P ops Cls eff K t (updo e o.dst v) w')) : Mix3 P ops Cls eff K (.op i t) e w := by
  simp only [Mix3]
  exact ⟨o, ho, by rw [if_pos hi]; exact h.mono fun v w' h => ⟨fun _ => h.1, h.2⟩⟩
theorem m_last3 {i : Nat} {o : Oper} {t : Ord3} {e : Env} {w : World} (ho : ops[i]? = some o) (hi : eff.contains i = true) (hl : eff.contains (i + 1000) = true)
    (h : EffAt P ops e w o (fun v w' => Mix3 P ops Cls eff K t (updo e o.dst v) w')) : Mix3 P ops Cls eff K (.op i t) e w := by
  simp only [Mix3]
  exact ⟨o, ho, by rw [if_pos hi]; exact h.mono fun v w' h => ⟨fun hx => (by rw [hl] at hx; cases hx), h⟩⟩
theorem m_fork3 {i : Nat} {a b : Ord3} {e : Env} {w : World} (h : Mix3 P ops Cls eff K (.op i a) e w) (h' : Mix3 P ops Cls eff K b e w) : Mix3 P ops Cls eff K (.fork i a b) e w := by
  simp only [Mix3] at h ⊢
  exact ⟨h, h'⟩
theorem m_nil3 {e : Env} {w : World} (h : K e w) : Mix3 P ops Cls eff K .done e w := h
end
end Go.Gv
