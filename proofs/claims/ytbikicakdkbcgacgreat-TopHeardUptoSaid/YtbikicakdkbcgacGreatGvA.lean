/- A program logic over the given machine: a todo stack, frames as functions. Generic in the program. Conditions: none. -/
import Derived.AtR
import Derived.Below
import Derived.CallsIn
import Derived.WalkKit
import Derived.Orders
set_option linter.unusedVariables false
set_option linter.unusedSimpArgs false
namespace Go.Gv
open Go Go.RowKit

abbrev Env := Nat → Value
def upd (e : Env) (d : Nat) (v : Value) : Env := fun t => cond (Nat.beq t d) v (e t)
def updo (e : Env) (d : Option Nat) (v : Value) : Env := match d with | some d => upd e d v | none => e
def ev (e : Env) : Operand → Value
  | .tmp t => e t
  | .const v => v
  | .global g => .pointer (some ⟨g, 0, none⟩)
  | .func f => .func (.func f) #[] #[]

structure Ctx where
  P : Program
  f : FuncId
  r : Option Nat
  n : Nat
  R : Value → World → Prop

def opOk (n : Nat) (o : Oper) : Bool := match o.dst with | some d => decide (d < n) | none => true
def codeOk (n : Nat) : Code → Bool
  | .region _ ops _ => ops.all (opOk n)
  | .seq a b => codeOk n a && codeOk n b
  | .cond _ a b => codeOk n a && codeOk n b
  | .block _ b => codeOk n b
  | .loop b => codeOk n b
  | .scope b => codeOk n b
  | .rangeFunc _ ps a b => ps.all (fun p => decide (p < n)) && codeOk n a && codeOk n b
  | _ => true
def itemOk (n : Nat) : Item → Bool
  | .code c => codeOk n c
  | .inRegion ops _ => ops.all (opOk n)
  | .inLoop c => codeOk n c
  | .inScope c => codeOk n c
  | _ => true
def stackOk (n : Nat) (k : List Item) : Bool := k.all (itemOk n)

theorem stackOk_cons {n : Nat} {x : Item} {k : List Item} : stackOk n (x :: k) = true ↔ itemOk n x = true ∧ stackOk n k = true := by
  simp [stackOk]

def Rep (n : Nat) (a : Act) (e : Env) : Prop := a.tmps.size = n ∧ ∀ t, a.tmps.getD t undef = e t

theorem Rep.eval {n : Nat} {a : Act} {e : Env} (h : Rep n a e) : a.eval = ev e := by
  funext x
  cases x with
  | tmp t => exact h.2 t
  | const v => rfl
  | global g => rfl
  | func f => rfl

theorem Rep.put {n : Nat} {a : Act} {e : Env} (h : Rep n a e) (d : Option Nat) (v : Value) (hd : ∀ t, d = some t → t < n) : Rep n (a.put d v) (updo e d v) := by
  cases d with
  | none => exact h
  | some d =>
    have hd := hd d rfl
    refine ⟨by simp [Act.put, h.1], fun t => ?_⟩
    have h2 := h.2 t
    simp only [Act.put, updo, upd, Array.getD_eq_getD_getElem?, Array.getElem?_setIfInBounds] at h2 ⊢
    by_cases ht : t = d
    · subst ht
      simp [h.1, hd]
    · rw [if_neg (fun h => ht h.symm), show Nat.beq t d = false from by rw [← Bool.not_eq_true]; intro h; exact ht (Nat.eq_of_beq_eq_true h)]
      exact h2

theorem Rep.yielded {n : Nat} {a : Act} {e : Env} (h : Rep n a e) (ops : Array Oper) (j : Nat) :
    yielded ops a.tmps j = match (ops[j]?).bind (·.dst) with
      | some d => (match e d with | .bool b => some b | _ => none)
      | none => none := by
  unfold Go.yielded
  cases (ops[j]?).bind (·.dst) with
  | none => rfl
  | some d =>
    have h2 := h.2 d
    simp only [Array.getD_eq_getD_getElem?] at h2
    simp only [Option.bind_some]
    rw [← h2]
    cases a.tmps[d]? with
    | none => simp [undef]
    | some v => cases v <;> simp

/-- where an activation has come to when it hands v back -/
def Left (C : Ctx) (cs : List Frame) (v : Value) (w' : World) (m' : Machine) : Prop :=
  match C.r with
  | none => ∃ fr, m' = lone fr cs w' ∧ fr.fn = C.f ∧ fr.leaving C.P w' (.returned v)
  | some _ => ∃ c cs', cs = c :: cs' ∧ m' = lone (c.finish v) cs' w'

/-- the activation that stands at the stack k comes to its end and hands back v with R -/
def Runs (C : Ctx) (k : List Item) (e : Env) (D : List Deferred) (w : World) : Prop :=
  stackOk C.n k = true → ∀ (a : Act) (b : Frame) (cs : List Frame), Rep C.n a e → a.defers = D → b.fn = C.f → b.roundOf = C.r → b.kind = .normal →
    (C.r.isSome = true → cs ≠ []) → ∃ v w' m', C.R v w' ∧ Steps C.P (lone (b.atR a k) cs w) m' ∧ Left C cs v w' m'

/-- the same in a region: l: the operations that are left, in their order -/
def RunsL (C : Ctx) (ops : Array Oper) (l : List Oper) (k : List Item) (e : Env) (D : List Deferred) (w : World) : Prop :=
  ops.all (opOk C.n) = true → ∀ idx : List Nat, idx.map (ops[·]?) = l.map some → Runs C (.inRegion ops idx :: k) e D w

def Ret (P : Program) (f : FuncId) (args : List Value) (w : World) (R : Value → World → Prop) : Prop :=
  Calls P f args.toArray w fun e w' => ∃ v, e = .returned v ∧ R v w'

theorem Ret.mono {P : Program} {f : FuncId} {args : List Value} {w : World} {R R' : Value → World → Prop} (h : Ret P f args w R)
    (hr : ∀ v w', R v w' → R' v w') : Ret P f args w R' := fun cs =>
  let ⟨e, w', fr, ⟨v, hv, r⟩, s, x⟩ := h cs
  ⟨e, w', fr, ⟨v, hv, hr _ _ r⟩, s, x⟩

/-- a round of a range-over-func loop, from its frame on, hands a value back to whoever called yield -/
def RoundEnds (P : Program) (l : Nat) (f : FuncId) (tmps : Array Value) (x y : Code) (w : World) (R : Value → World → Prop) : Prop :=
  ∀ c cs, ∃ v w', R v w' ∧ Steps P (lone (Frame.round l f tmps x y .normal) (c :: cs) w) (lone (c.finish v) cs w')
theorem RoundEnds.mono {P : Program} {l : Nat} {f : FuncId} {tmps : Array Value} {x y : Code} {w : World} {R R' : Value → World → Prop} (h : RoundEnds P l f tmps x y w R) (hr : ∀ v w', R v w' → R' v w') : RoundEnds P l f tmps x y w R' := fun c cs =>
  let ⟨v, w', r, s⟩ := h c cs
  ⟨v, w', hr _ _ r, s⟩

section rules
variable {C : Ctx} {k : List Item} {e : Env} {D : List Deferred} {w : World}

theorem runs_step {k' : List Item} {w' : World} (hok : stackOk C.n k = true → stackOk C.n k' = true)
    (hs : ∀ (a : Act) (b : Frame) (cs : List Frame), Rep C.n a e → a.defers = D → b.roundOf = C.r → step C.P (lone (b.atR a k) cs w) = .next (lone (b.atR a k') cs w'))
    (h : Runs C k' e D w') : Runs C k e D w := by
  intro hk a b cs ha hD hf hr hki hcs
  obtain ⟨v, w₂, m', hR, hst, hl⟩ := h (hok hk) a b cs ha hD hf hr hki hcs
  exact ⟨v, w₂, m', hR, .head (hs a b cs ha hD hr) hst, hl⟩

theorem r_seq {x y : Code} (h : Runs C (.code x :: .code y :: k) e D w) : Runs C (.code (.seq x y) :: k) e D w :=
  runs_step (by simp [stackOk, itemOk, codeOk]; intro a b c; exact ⟨a, b, c⟩) (fun _ _ _ _ _ _ => stepR_seq) h
theorem r_skip (h : Runs C k e D w) : Runs C (.code .skip :: k) e D w :=
  runs_step (by simp [stackOk, itemOk, codeOk]) (fun _ _ _ _ _ _ => stepR_skip) h
theorem r_inBlock {id : Nat} (h : Runs C k e D w) : Runs C (.inBlock id :: k) e D w :=
  runs_step (by simp [stackOk, itemOk]) (fun _ _ _ _ _ _ => stepR_inBlock) h
theorem r_block {id : Nat} {c : Code} (h : Runs C (.code c :: .inBlock id :: k) e D w) : Runs C (.code (.block id c) :: k) e D w :=
  runs_step (by simp [stackOk, itemOk, codeOk]) (fun _ _ _ _ _ _ => stepR_block) h
theorem r_loop {c : Code} (h : Runs C (.code c :: .inLoop c :: k) e D w) : Runs C (.code (.loop c) :: k) e D w :=
  runs_step (by simp [stackOk, itemOk, codeOk]) (fun _ _ _ _ _ _ => stepR_loop) h
theorem r_inLoop {c : Code} (h : Runs C (.code c :: .inLoop c :: k) e D w) : Runs C (.inLoop c :: k) e D w :=
  runs_step (by simp [stackOk, itemOk]) (fun _ _ _ _ _ _ => stepR_inLoop) h

theorem exitTo_ok {n id : Nat} : ∀ {k k' : List Item}, exitTo id k = some k' → stackOk n k = true → stackOk n k' = true
  | [], _, h, _ => by simp [exitTo] at h
  | x :: k, k', h, hk => by
    have hk2 := (stackOk_cons.1 hk).2
    cases x with
    | inBlock id' =>
      simp only [exitTo] at h
      split at h
      · cases h; exact hk2
      · exact exitTo_ok h hk2
    | _ => exact exitTo_ok (by simpa [exitTo] using h) hk2
theorem r_exit {id : Nat} {k' : List Item} (hx : exitTo id k = some k') (h : Runs C k' e D w) : Runs C (.code (.exit id) :: k) e D w :=
  runs_step (fun hk => exitTo_ok hx (stackOk_cons.1 hk).2) (fun _ _ _ _ _ _ => stepR_exit hx) h

theorem r_cond {c : Operand} {x y : Code} {t : Bool} (hc : ev e c = .bool t) (ht : t = true → Runs C (.code x :: k) e D w)
    (hf : t = false → Runs C (.code y :: k) e D w) : Runs C (.code (.cond c x y) :: k) e D w := by
  have hs : ∀ (a : Act) (b : Frame) (cs : List Frame), Rep C.n a e → a.defers = D → b.roundOf = C.r →
      step C.P (lone (b.atR a (.code (.cond c x y) :: k)) cs w) = .next (lone (b.atR a (.code (if t then x else y) :: k)) cs w) :=
    fun a b cs ha _ _ => stepR_cond (by rw [ha.eval]; exact hc)
  cases t with
  | true => exact runs_step (by simp [stackOk, itemOk, codeOk]; intro a b c; exact ⟨a, c⟩) hs (ht rfl)
  | false => exact runs_step (by simp [stackOk, itemOk, codeOk]; intro a b c; exact ⟨b, c⟩) hs (hf rfl)
theorem r_cond_t {c : Operand} {x y : Code} (hc : ev e c = .bool true) (h : Runs C (.code x :: k) e D w) : Runs C (.code (.cond c x y) :: k) e D w :=
  r_cond hc (fun _ => h) (fun h => by cases h)
theorem r_cond_f {c : Operand} {x y : Code} (hc : ev e c = .bool false) (h : Runs C (.code y :: k) e D w) : Runs C (.code (.cond c x y) :: k) e D w :=
  r_cond hc (fun h => by cases h) (fun _ => h)

/-- a loop: I: what holds at each round's head, by a ghost x; mu: what each round lowers -/
theorem r_rounds {α : Type} (I : α → Env → World → Prop) (mu : α → Nat) {c : Code} (x : α) (h0 : I x e w)
    (round : ∀ x e w, I x e w → (∀ y e' w', I y e' w' → mu y < mu x → Runs C (.inLoop c :: k) e' D w') → Runs C (.code c :: .inLoop c :: k) e D w) :
    Runs C (.code (.loop c) :: k) e D w := by
  have key : ∀ j x e w, mu x = j → I x e w → Runs C (.code c :: .inLoop c :: k) e D w := by
    intro j
    induction j using Nat.strongRecOn with
    | _ j ih =>
      intro x e w hj hI
      refine round x e w hI fun y e' w' hI' hlt => r_inLoop ?_
      exact ih (mu y) (by omega) y e' w' rfl hI'
  exact r_loop (key _ x e w rfl h0)

theorem map_range (ops : Array Oper) : (List.range ops.size).map (ops[·]?) = ops.toList.map some := by
  apply List.ext_getElem?
  intro i
  by_cases h : i < ops.size
  · simp [h]
  · have h' : ops.size ≤ i := by omega
    rw [List.getElem?_eq_none (by simpa using h'), List.getElem?_eq_none (by simpa using h')]

theorem r_region {id : Nat} {ops : Array Oper} (h : RunsL C ops ops.toList k e D w) : Runs C (.code (.region id ops false) :: k) e D w := by
  intro hk
  have hops : ops.all (opOk C.n) = true := (stackOk_cons.1 hk).1
  exact runs_step (k' := .inRegion ops (List.range ops.size) :: k) (fun _ => stackOk_cons.2 ⟨hops, (stackOk_cons.1 hk).2⟩)
    (fun _ _ _ _ _ _ => stepR_region) (h hops _ (map_range ops)) hk
theorem r_region' {id : Nat} {l : List Oper} (h : RunsL C l.toArray l k e D w) : Runs C (.code (.region id l.toArray false) :: k) e D w := r_region h

theorem l_nil {ops : Array Oper} (h : Runs C k e D w) : RunsL C ops [] k e D w := by
  intro _ idx hi
  have : idx = [] := by cases idx <;> simp_all
  subst this
  exact runs_step (fun hk => (stackOk_cons.1 hk).2) (fun _ _ _ _ _ _ => stepR_region_end) h

end rules

section ops
variable {C : Ctx} {ops : Array Oper} {o : Oper} {rest : List Oper} {k : List Item} {e : Env} {D : List Deferred} {w : World}

def wantedE (ops : Array Oper) (e : Env) (o : Oper) : Bool :=
  match o.guard with
  | none => true
  | some (j, want) => (match (ops[j]?).bind (·.dst) with
      | some d => (match e d with | .bool b => some b | _ => none)
      | none => none) == some want

theorem wanted_eq {n : Nat} {a : Act} (ha : Rep n a e) : Region.wanted o (yielded ops a.tmps) = wantedE ops e o := by
  unfold Region.wanted wantedE
  cases o.guard with
  | none => rfl
  | some g => obtain ⟨j, want⟩ := g; simp only [ha.yielded]

def notDefer (o : Oper) : Bool := match o.op with | .defer _ => false | _ => true

theorem semAt_notDefer (h : notDefer o = true) (ro : Option Nat) (ρ : Operand → Value) : o.semAt ro ρ = execOp ρ o :=
  Oper.semAt_eq ro ρ o (fun c hc => by simp [notDefer, hc] at h)

theorem idx_cons {idx : List Nat} (h : idx.map (ops[·]?) = (o :: rest).map some) : ∃ i idx', idx = i :: idx' ∧ ops[i]? = some o ∧ idx'.map (ops[·]?) = rest.map some := by
  cases idx with
  | nil => simp at h
  | cons i idx' => simp only [List.map_cons, List.cons.injEq] at h; exact ⟨i, idx', rfl, h.1, h.2⟩

theorem opOk_dst {n : Nat} {i : Nat} (h : ops.all (opOk n) = true) (hi : ops[i]? = some o) : ∀ t, o.dst = some t → t < n := by
  intro t ht
  rw [Array.all_eq_true] at h
  obtain ⟨hlt, he⟩ := Array.getElem?_eq_some_iff.1 hi
  have := h i hlt
  rw [he] at this
  simpa [opOk, ht] using this

theorem i_skip {i : Nat} {idx : List Nat} (hops : ops.all (opOk C.n) = true) (ho : ops[i]? = some o) (hw : wantedE ops e o = false) (h : Runs C (.inRegion ops idx :: k) (updo e o.dst undef) D w) :
    Runs C (.inRegion ops (i :: idx) :: k) e D w := by
  intro hk a b cs ha hD hf hr hki hcs
  have hs := stepR_op_skip (P := C.P) (b := b) (a := a) (k := k) (cs := cs) (w := w) (ops := ops) (i := i) (rest := idx)
    (by rw [ho]; simp only [Option.map_some, Option.getD_some]; rw [wanted_eq ha]; exact hw)
  rw [ho] at hs
  obtain ⟨v, w₂, m', hR, hst, hl⟩ := h hk _ b cs (ha.put o.dst undef (opOk_dst hops ho)) (by cases hd : o.dst <;> simp [Act.put, hD]) hf hr hki hcs
  exact ⟨v, w₂, m', hR, .head hs hst, hl⟩
theorem i_value {i : Nat} {idx : List Nat} (hops : ops.all (opOk C.n) = true) (ho : ops[i]? = some o) {v : Value} {w' : World} (hw : wantedE ops e o = true) (hd : notDefer o = true) (hx : (execOp (ev e) o).run C.P w = .ok (.value v) w')
    (h : Runs C (.inRegion ops idx :: k) (updo e o.dst v) D w') : Runs C (.inRegion ops (i :: idx) :: k) e D w := by
  intro hk a b cs ha hD hf hr hki hcs
  have hg := stepGR_op (P := C.P) (b := b) (a := a) (k := k) (cs := cs) (w := w) (rest := idx) ho (by rw [wanted_eq ha]; exact hw)
  rw [semAt_notDefer hd, ha.eval] at hg
  have hs : step C.P (lone (b.atR a (.inRegion ops (i :: idx) :: k)) cs w) = .next (lone (b.atR (a.put o.dst v) (.inRegion ops idx :: k)) cs w') :=
    step_lone_go (by rw [hg, show b.atR (a.put o.dst v) (.inRegion ops idx :: k) = (b.atR a (.inRegion ops (i :: idx) :: k)).finish v from by rw [Frame.finish_atR, ho]; rfl]; simp [stepG.apply, hx])
  obtain ⟨u, w₂, m', hR, hst, hl⟩ := h hk _ b cs (ha.put o.dst v (opOk_dst hops ho)) (by cases hd : o.dst <;> simp [Act.put, hD]) hf hr hki hcs
  exact ⟨u, w₂, m', hR, .head hs hst, hl⟩
theorem i_done {i : Nat} {idx : List Nat} (hops : ops.all (opOk C.n) = true) (ho : ops[i]? = some o) {w' : World} (hw : wantedE ops e o = true) (hd : notDefer o = true) (hx : (execOp (ev e) o).run C.P w = .ok .skip w')
    (h : Runs C (.inRegion ops idx :: k) (updo e o.dst undef) D w') : Runs C (.inRegion ops (i :: idx) :: k) e D w := by
  intro hk a b cs ha hD hf hr hki hcs
  have hg := stepGR_op (P := C.P) (b := b) (a := a) (k := k) (cs := cs) (w := w) (rest := idx) ho (by rw [wanted_eq ha]; exact hw)
  rw [semAt_notDefer hd, ha.eval] at hg
  have hs : step C.P (lone (b.atR a (.inRegion ops (i :: idx) :: k)) cs w) = .next (lone (b.atR (a.put o.dst undef) (.inRegion ops idx :: k)) cs w') :=
    step_lone_go (by rw [hg, show b.atR (a.put o.dst undef) (.inRegion ops idx :: k) = (b.atR a (.inRegion ops (i :: idx) :: k)).finish undef from by rw [Frame.finish_atR, ho]; rfl]; simp [stepG.apply, hx])
  obtain ⟨u, w₂, m', hR, hst, hl⟩ := h hk _ b cs (ha.put o.dst undef (opOk_dst hops ho)) (by cases hd : o.dst <;> simp [Act.put, hD]) hf hr hki hcs
  exact ⟨u, w₂, m', hR, .head hs hst, hl⟩
theorem i_enter {i : Nat} {idx : List Nat} (hops : ops.all (opOk C.n) = true) (ho : ops[i]? = some o) {f : FuncId} {args : List Value} {w' : World} {R : Value → World → Prop} (hw : wantedE ops e o = true) (hd : notDefer o = true)
    (hx : (execOp (ev e) o).run C.P w = .ok (.enter f args.toArray) w') (hc : Ret C.P f args w' R)
    (h : ∀ v w'', R v w'' → Runs C (.inRegion ops idx :: k) (updo e o.dst v) D w'') : Runs C (.inRegion ops (i :: idx) :: k) e D w := by
  intro hk a b cs ha hD hf hr hki hcs
  have hg := stepGR_op (P := C.P) (b := b) (a := a) (k := k) (cs := cs) (w := w) (rest := idx) ho (by rw [wanted_eq ha]; exact hw)
  rw [semAt_notDefer hd, ha.eval] at hg
  have henter : step C.P (lone (b.atR a (.inRegion ops (i :: idx) :: k)) cs w) =
      .next (lone (Frame.enter C.P f args.toArray .normal) (b.atR a (.inRegion ops (i :: idx) :: k) :: cs) w') :=
    step_lone_go (by rw [hg]; simp [stepG.apply, hx, Frame.atR])
  obtain ⟨en, w₁, fr, ⟨v, rfl, hRv⟩, hsteps, _, hleave⟩ := hc (b.atR a (.inRegion ops (i :: idx) :: k) :: cs)
  have hback := step_leave_returned (c := b.atR a (.inRegion ops (i :: idx) :: k)) (cs := cs) hleave
  have hfin : (b.atR a (.inRegion ops (i :: idx) :: k)).finish v = b.atR (a.put o.dst v) (.inRegion ops idx :: k) := by rw [Frame.finish_atR, ho]; rfl
  rw [hfin] at hback
  obtain ⟨u, w₂, m', hR, hst, hl⟩ := h v w₁ hRv hk _ b cs (ha.put o.dst v (opOk_dst hops ho)) (by cases hd : o.dst <;> simp [Act.put, hD]) hf hr hki hcs
  exact ⟨u, w₂, m', hR, .head henter (Steps.trans hsteps (.head hback hst)), hl⟩

theorem i_round {i : Nat} {idx : List Nat} (hops : ops.all (opOk C.n) = true) (ho : ops[i]? = some o) {l : Nat} {f : FuncId} {tmps : Array Value} {x y : Code} {w' : World} (hw : wantedE ops e o = true) (hd : notDefer o = true)
    (hx : (execOp (ev e) o).run C.P w = .ok (.round l f tmps x y) w') (hc : RoundEnds C.P l f tmps x y w' (fun v w'' => Runs C (.inRegion ops idx :: k) (updo e o.dst v) D w'')) : Runs C (.inRegion ops (i :: idx) :: k) e D w := by
  intro hk a b cs ha hD hf hr hki hcs
  have hg := stepGR_op (P := C.P) (b := b) (a := a) (k := k) (cs := cs) (w := w) (rest := idx) ho (by rw [wanted_eq ha]; exact hw)
  rw [semAt_notDefer hd, ha.eval] at hg
  have henter : step C.P (lone (b.atR a (.inRegion ops (i :: idx) :: k)) cs w) =
      .next (lone (Frame.round l f tmps x y .normal) (b.atR a (.inRegion ops (i :: idx) :: k) :: cs) w') :=
    step_lone_go (by rw [hg]; simp [stepG.apply, hx])
  obtain ⟨v, w₁, hRv, hsteps⟩ := hc (b.atR a (.inRegion ops (i :: idx) :: k)) cs
  have hfin : (b.atR a (.inRegion ops (i :: idx) :: k)).finish v = b.atR (a.put o.dst v) (.inRegion ops idx :: k) := by rw [Frame.finish_atR, ho]; rfl
  rw [hfin] at hsteps
  obtain ⟨u, w₂, m', hR, hst, hl⟩ := hRv hk _ b cs (ha.put o.dst v (opOk_dst hops ho)) (by cases hd : o.dst <;> simp [Act.put, hD]) hf hr hki hcs
  exact ⟨u, w₂, m', hR, .head henter (Steps.trans hsteps hst), hl⟩

/-- the operation yields v and leaves the world as it is (or is not wanted) -/
def QuietAt (P : Program) (ops : Array Oper) (e : Env) (w : World) (o : Oper) (v : Value) : Prop :=
  (wantedE ops e o = true ∧ notDefer o = true ∧ (execOp (ev e) o).run P w = .ok (.value v) w) ∨ (wantedE ops e o = false ∧ v = undef)
/-- the operation comes to a value and a world with K -/
def EffAt (P : Program) (ops : Array Oper) (e : Env) (w : World) (o : Oper) (K : Value → World → Prop) : Prop :=
  (wantedE ops e o = true ∧ notDefer o = true ∧ ((∃ v w', (execOp (ev e) o).run P w = .ok (.value v) w' ∧ K v w') ∨ (∃ w', (execOp (ev e) o).run P w = .ok .skip w' ∧ K undef w') ∨
    (∃ f args w1, (execOp (ev e) o).run P w = .ok (.enter f (List.toArray args)) w1 ∧ Ret P f args w1 K) ∨
    (∃ l f tmps x y w1, (execOp (ev e) o).run P w = .ok (.round l f tmps x y) w1 ∧ RoundEnds P l f tmps x y w1 K))) ∨ (wantedE ops e o = false ∧ K undef w)

theorem EffAt.mono {P : Program} {K K' : Value → World → Prop} (h : EffAt P ops e w o K) (hk : ∀ v w', K v w' → K' v w') : EffAt P ops e w o K' := by
  rcases h with ⟨hw, hd, h⟩ | ⟨hw, h⟩
  · refine .inl ⟨hw, hd, ?_⟩
    rcases h with ⟨v, w', h1, h2⟩ | ⟨w', h1, h2⟩ | ⟨f, args, w1, h1, h2⟩ | ⟨l, f, tmps, x, y, w1, h1, h2⟩
    · exact .inl ⟨v, w', h1, hk _ _ h2⟩
    · exact .inr (.inl ⟨w', h1, hk _ _ h2⟩)
    · exact .inr (.inr (.inl ⟨f, args, w1, h1, h2.mono hk⟩))
    · exact .inr (.inr (.inr ⟨l, f, tmps, x, y, w1, h1, h2.mono hk⟩))
  · exact .inr ⟨hw, hk _ _ h⟩
theorem QuietAt.eff {P : Program} {v : Value} {K : Value → World → Prop} (h : QuietAt P ops e w o v) (hk : K v w) : EffAt P ops e w o K := by
  rcases h with ⟨hw, hd, h⟩ | ⟨hw, h⟩
  · exact .inl ⟨hw, hd, .inl ⟨v, w, h, hk⟩⟩
  · subst h; exact .inr ⟨hw, hk⟩

theorem e_value {P : Program} {K : Value → World → Prop} {v : Value} {w' : World} (hw : wantedE ops e o = true) (hd : notDefer o = true) (hx : (execOp (ev e) o).run P w = .ok (.value v) w') (h : K v w') : EffAt P ops e w o K :=
  .inl ⟨hw, hd, .inl ⟨v, w', hx, h⟩⟩
theorem e_done {P : Program} {K : Value → World → Prop} {w' : World} (hw : wantedE ops e o = true) (hd : notDefer o = true) (hx : (execOp (ev e) o).run P w = .ok .skip w') (h : K undef w') : EffAt P ops e w o K :=
  .inl ⟨hw, hd, .inr (.inl ⟨w', hx, h⟩)⟩
theorem i_o {i : Nat} {idx : List Nat} (hops : ops.all (opOk C.n) = true) (ho : ops[i]? = some o) (h : EffAt C.P ops e w o (fun v w' => Runs C (.inRegion ops idx :: k) (updo e o.dst v) D w')) :
    Runs C (.inRegion ops (i :: idx) :: k) e D w := by
  rcases h with ⟨hw, hd, h⟩ | ⟨hw, h⟩
  · rcases h with ⟨v, w', h1, h2⟩ | ⟨w', h1, h2⟩ | ⟨f, args, w1, h1, h2⟩ | ⟨l, f, tmps, x, y, w1, h1, h2⟩
    · exact i_value hops ho hw hd h1 h2
    · exact i_done hops ho hw hd h1 h2
    · exact i_enter hops ho hw hd h1 h2 (fun _ _ h => h)
    · exact i_round hops ho hw hd h1 h2
  · exact i_skip hops ho hw h
theorem l_o (h : EffAt C.P ops e w o (fun v w' => RunsL C ops rest k (updo e o.dst v) D w')) : RunsL C ops (o :: rest) k e D w := by
  intro hops idx hi
  obtain ⟨i, idx', rfl, ho, hi'⟩ := idx_cons hi
  exact i_o hops ho (h.mono fun v w' h => h hops idx' hi')
theorem l_q {v : Value} (h : QuietAt C.P ops e w o v) (hk : RunsL C ops rest k (updo e o.dst v) D w) : RunsL C ops (o :: rest) k e D w := l_o (h.eff hk)
theorem q_skip {P : Program} (hw : wantedE ops e o = false) : QuietAt P ops e w o undef := .inr ⟨hw, rfl⟩

end ops

section ends
variable {C : Ctx} {k : List Item} {e : Env} {D : List Deferred} {w : World}

def marked (d : Nat) : Deferred := { target := .collected d, args := #[] }

/-- the marks of range-over-func loops are taken at the end -/
inductive Unw : World → List Deferred → World → Prop
  | nil (w : World) : Unw w [] w
  | cons {w w' : World} {d : Nat} {ds : List Deferred} (h : w.heap[d]? = some (.deferred (some []))) (h' : Unw { w with heap := w.heap.setIfInBounds d (.deferred none) } ds w') :
      Unw w (marked d :: ds) w'

theorem step_unw {P : Program} {fr : Frame} {cs : List Frame} {w : World} {d : Nat} {ds : List Deferred} (hm : fr.mode = .returning) (hd : fr.defers = marked d :: ds)
    (h : w.heap[d]? = some (.deferred (some []))) : step P (lone fr cs w) = .next (lone { fr with defers := ds } cs { w with heap := w.heap.setIfInBounds d (.deferred none) }) :=
  step_lone_go (by
    have hr : (Instr.takeDeferred d).run P w = .ok [] { w with heap := w.heap.setIfInBounds d (.deferred none) } := by
      simp [Instr.takeDeferred, getObj, setObj, Sem.run, h, bind, Sem.bind, pure]
    simp [stepG, unwind, hm, hd, marked, Sem.runT_eq, hr])

theorem unw_steps {P : Program} {cs : List Frame} {w w' : World} {D : List Deferred} (h : Unw w D w') : ∀ fr : Frame, fr.mode = .returning → fr.defers = D →
    Steps P (lone fr cs w) (lone { fr with defers := [] } cs w') := by
  induction h with
  | nil w =>
    intro fr hm hd
    cases fr
    simp only at hd
    subst hd
    exact .refl _ _
  | cons h h' ih =>
    intro fr hm hd
    refine .head (step_unw hm hd h) ?_
    exact ih { fr with defers := _ } hm rfl

theorem r_leave {fn : Func} {v : Value} {w' : World} (hr : C.r = none) (hf : C.P.funcs[C.f]? = some fn) (hu : Unw w D w')
    (hv : ∀ tmps : Array Value, (∀ t, tmps.getD t undef = e t) → (results fn tmps).run C.P w' = .ok v w') (hR : C.R v w')
    (hstep : ∀ (a : Act) (b : Frame) (cs : List Frame), b.roundOf = none → ∃ todo, step C.P (lone (b.atR a k) cs w) = .next (lone { b.atR a todo with mode := .returning } cs w)) : Runs C k e D w := by
  intro hk a b cs ha hD hfn hro hki hcs
  rw [hr] at hro
  obtain ⟨todo, hs⟩ := hstep a b cs hro
  have hun := unw_steps (P := C.P) (cs := cs) hu { b.atR a todo with mode := .returning } rfl hD
  refine ⟨v, w', _, hR, .head hs hun, ?_⟩
  unfold Left
  rw [hr]
  refine ⟨_, rfl, hfn, rfl, rfl, hki, fn, ?_, ?_⟩
  · show C.P.funcs[b.fn]? = some fn
    rw [hfn]; exact hf
  · exact hv a.tmps ha.2

theorem r_ret {fn : Func} {v : Value} {w' : World} (hr : C.r = none) (hf : C.P.funcs[C.f]? = some fn) (hu : Unw w D w')
    (hv : ∀ tmps : Array Value, (∀ t, tmps.getD t undef = e t) → (results fn tmps).run C.P w' = .ok v w') (hR : C.R v w') : Runs C (.code .ret :: k) e D w :=
  r_leave hr hf hu hv hR fun _ _ _ hb => ⟨_, stepR_ret hb⟩
theorem r_end {fn : Func} {v : Value} {w' : World} (hr : C.r = none) (hf : C.P.funcs[C.f]? = some fn) (hu : Unw w D w')
    (hv : ∀ tmps : Array Value, (∀ t, tmps.getD t undef = e t) → (results fn tmps).run C.P w' = .ok v w') (hR : C.R v w') : Runs C [] e D w :=
  r_leave hr hf hu hv hR fun _ _ _ hb => ⟨_, stepR_end hb⟩

def argEnv (args : List Value) : Env := fun t => args.getD t undef

/-- entering a function -/
theorem ret_of_runs {P : Program} {f : FuncId} {fn : Func} {c : Code} {args : List Value} {w : World} {R : Value → World → Prop}
    (hf : P.funcs[f]? = some fn) (hb : fn.body = some c) (hn : args.length ≤ fn.ntmps) (hok : codeOk fn.ntmps c = true)
    (h : Runs ⟨P, f, none, fn.ntmps, R⟩ [.code c] (argEnv args) [] w) : Ret P f args w R := by
  intro cs
  let b : Frame := { (default : Frame) with fn := f, kind := .normal, roundOf := none }
  let a : Act := { tmps := args.toArray ++ Array.replicate (fn.ntmps - args.toArray.size) undef, defers := [] }
  have henter : Frame.enter P f args.toArray .normal = b.atR a [.code c] := by
    simp [Frame.enter, Frame.atR, hf, hb, b, a]
  have ha : Rep fn.ntmps a (argEnv args) := by
    refine ⟨by simp [a]; omega, fun t => ?_⟩
    simp only [a, Array.getD_eq_getD_getElem?, argEnv, Array.getElem?_append, List.getD_eq_getElem?_getD]
    simp only [List.size_toArray, List.getElem?_toArray]
    split
    · rfl
    · rename_i hlt
      rw [List.getElem?_eq_none (by omega)]
      simp only [Option.getD_none, Array.getElem?_replicate]
      split <;> rfl
  obtain ⟨v, w', m', hR, hst, fr, rfl, hfr, hl⟩ := h (by simp [stackOk, itemOk, hok]) a b cs ha rfl rfl rfl rfl (by simp)
  rw [← henter] at hst
  exact ⟨.returned v, w', fr, ⟨v, rfl, hR⟩, hst, hfr, hl⟩

end ends
end Go.Gv
namespace Go.Gv
open Go Go.RowKit

abbrev vint (n : Int) : Value := .int .i64 n
abbrev vstr (l : List UInt8) : Value := .string ⟨⟨l⟩⟩
abbrev ptr (b o : Nat) : Value := .pointer (some ⟨b, o, none⟩)
theorem wrap_in {n : Int} (h : -9223372036854775808 ≤ n ∧ n ≤ 9223372036854775807) : IntKind.i64.wrap n = n := by
  simp [IntKind.wrap, IntKind.signed, IntKind.bits]; omega

section
variable {C : Ctx} {P : Program} {ops : Array Oper} {rest : List Oper} {k : List Item} {e : Env} {D : List Deferred} {w : World}
variable {d : Option Nat} {ty : TypeId} {pos : String} {af : Array Edge} {g : Option (Nat × Bool)}

theorem q_move {x : Operand} {v : Value} (hx : ev e x = v) (hw : wantedE ops e ⟨d, .move x, ty, pos, af, g⟩ = true) : QuietAt P ops e w ⟨d, .move x, ty, pos, af, g⟩ v :=
  .inl ⟨hw, rfl, (by simp [execOp, hx])⟩
theorem q_assign {x : Operand} {v : Value} (hx : ev e x = v) (hw : wantedE ops e ⟨d, .assign x, ty, pos, af, g⟩ = true) : QuietAt P ops e w ⟨d, .assign x, ty, pos, af, g⟩ v :=
  .inl ⟨hw, rfl, (by simp [execOp, hx])⟩
theorem qmi {x : Operand} {kd : IntKind} {n : Int} (hx : ev e x = .int kd n) (hw : wantedE ops e ⟨d, .move x, ty, pos, af, g⟩ = true) : QuietAt P ops e w ⟨d, .move x, ty, pos, af, g⟩ (.int kd n) := q_move hx hw
theorem qmb {x : Operand} {c : Bool} (hx : ev e x = .bool c) (hw : wantedE ops e ⟨d, .move x, ty, pos, af, g⟩ = true) : QuietAt P ops e w ⟨d, .move x, ty, pos, af, g⟩ (.bool c) := q_move hx hw
theorem qms {x : Operand} {a : Option Addr} {n c : Nat} (hx : ev e x = .slice a n c) (hw : wantedE ops e ⟨d, .move x, ty, pos, af, g⟩ = true) : QuietAt P ops e w ⟨d, .move x, ty, pos, af, g⟩ (.slice a n c) := q_move hx hw
theorem qai {x : Operand} {kd : IntKind} {n : Int} (hx : ev e x = .int kd n) (hw : wantedE ops e ⟨d, .assign x, ty, pos, af, g⟩ = true) : QuietAt P ops e w ⟨d, .assign x, ty, pos, af, g⟩ (.int kd n) := q_assign hx hw
theorem qab {x : Operand} {c : Bool} (hx : ev e x = .bool c) (hw : wantedE ops e ⟨d, .assign x, ty, pos, af, g⟩ = true) : QuietAt P ops e w ⟨d, .assign x, ty, pos, af, g⟩ (.bool c) := q_assign hx hw
theorem qas {x : Operand} {a : Option Addr} {n c : Nat} (hx : ev e x = .slice a n c) (hw : wantedE ops e ⟨d, .assign x, ty, pos, af, g⟩ = true) : QuietAt P ops e w ⟨d, .assign x, ty, pos, af, g⟩ (.slice a n c) := q_assign hx hw
theorem q_pick_t {c x y : Operand} {v : Value} (hc : ev e c = .bool true) (hx : ev e x = v) (hw : wantedE ops e ⟨d, .pick c x y, ty, pos, af, g⟩ = true)
    : QuietAt P ops e w ⟨d, .pick c x y, ty, pos, af, g⟩ v :=
  .inl ⟨hw, rfl, (by simp [execOp, hx, hc, asBool])⟩
theorem q_pick_f {c x y : Operand} {v : Value} (hc : ev e c = .bool false) (hx : ev e y = v) (hw : wantedE ops e ⟨d, .pick c x y, ty, pos, af, g⟩ = true)
    : QuietAt P ops e w ⟨d, .pick c x y, ty, pos, af, g⟩ v :=
  .inl ⟨hw, rfl, (by simp [execOp, hx, hc, asBool])⟩
theorem q_extract {x : Operand} {ix : Nat} {vs : List Value} {v : Value} (hx : ev e x = .tuple ⟨vs⟩) (hv : vs[ix]? = some v) (hw : wantedE ops e ⟨d, .extract x ix, ty, pos, af, g⟩ = true)
    : QuietAt P ops e w ⟨d, .extract x ix, ty, pos, af, g⟩ v :=
  .inl ⟨hw, rfl, (by simp [execOp, hx, Instr.extract, hv])⟩
theorem q_nilCheck {x : Operand} {a : Addr} (hx : ev e x = .pointer (some a)) (hw : wantedE ops e ⟨d, .nilCheck x, ty, pos, af, g⟩ = true)
    : QuietAt P ops e w ⟨d, .nilCheck x, ty, pos, af, g⟩ (.pointer (some a)) :=
  .inl ⟨hw, rfl, (by simp [execOp, hx])⟩
theorem q_not {t : TypeId} {x : Operand} {b : Bool} (hx : ev e x = .bool b) (hw : wantedE ops e ⟨d, .unOp .not t x, ty, pos, af, g⟩ = true)
    : QuietAt P ops e w ⟨d, .unOp .not t x, ty, pos, af, g⟩ (.bool (!b)) :=
  .inl ⟨hw, rfl, (by simp [execOp, hx, Op.unary])⟩
theorem q_neg {t : TypeId} {x : Operand} {a : Int} (hx : ev e x = vint a) (hr : -9223372036854775808 ≤ 0 - a ∧ 0 - a ≤ 9223372036854775807) (hw : wantedE ops e ⟨d, .unOp .neg t x, ty, pos, af, g⟩ = true)
    : QuietAt P ops e w ⟨d, .unOp .neg t x, ty, pos, af, g⟩ (vint (0 - a)) :=
  .inl ⟨hw, rfl, (by simp only [execOp, hx, Op.unary, Op.intArith, wrap_in hr]; rfl)⟩

theorem q_add {t yt : TypeId} {x y : Operand} {a b : Int} (hx : ev e x = vint a) (hy : ev e y = vint b) (hr : -9223372036854775808 ≤ a + b ∧ a + b ≤ 9223372036854775807)
    (hw : wantedE ops e ⟨d, .binOp .add t x y yt, ty, pos, af, g⟩ = true) : QuietAt P ops e w ⟨d, .binOp .add t x y yt, ty, pos, af, g⟩ (vint (a + b)) :=
  .inl ⟨hw, rfl, (by simp [execOp, hx, hy, eqGuard, binOp, Op.intArith, wrap_in hr])⟩
theorem q_sub {t yt : TypeId} {x y : Operand} {a b : Int} (hx : ev e x = vint a) (hy : ev e y = vint b) (hr : -9223372036854775808 ≤ a - b ∧ a - b ≤ 9223372036854775807)
    (hw : wantedE ops e ⟨d, .binOp .sub t x y yt, ty, pos, af, g⟩ = true) : QuietAt P ops e w ⟨d, .binOp .sub t x y yt, ty, pos, af, g⟩ (vint (a - b)) :=
  .inl ⟨hw, rfl, (by simp [execOp, hx, hy, eqGuard, binOp, Op.intArith, wrap_in hr])⟩
theorem q_mul {t yt : TypeId} {x y : Operand} {a b : Int} (hx : ev e x = vint a) (hy : ev e y = vint b) (hr : -9223372036854775808 ≤ a * b ∧ a * b ≤ 9223372036854775807)
    (hw : wantedE ops e ⟨d, .binOp .mul t x y yt, ty, pos, af, g⟩ = true) : QuietAt P ops e w ⟨d, .binOp .mul t x y yt, ty, pos, af, g⟩ (vint (a * b)) :=
  .inl ⟨hw, rfl, (by simp [execOp, hx, hy, eqGuard, binOp, Op.intArith, wrap_in hr])⟩
theorem q_rem {t yt : TypeId} {x y : Operand} {kd : IntKind} {a b : Int} (hx : ev e x = .int kd a) (hy : ev e y = .int kd b) (hr : 0 ≤ a ∧ 0 < b)
    (hw : wantedE ops e ⟨d, .binOp .rem t x y yt, ty, pos, af, g⟩ = true) : QuietAt P ops e w ⟨d, .binOp .rem t x y yt, ty, pos, af, g⟩ (.int kd (a % b)) :=
  .inl ⟨hw, rfl, (by
    have h1 : a.tmod b = a % b := Int.tmod_eq_emod_of_nonneg hr.1
    have h4 : b ≠ 0 := by omega
    simp [execOp, hx, hy, eqGuard, binOp, Op.intDiv, h4, h1])⟩

theorem q_lss {t yt : TypeId} {x y : Operand} {kd : IntKind} {a b : Int} (hx : ev e x = .int kd a) (hy : ev e y = .int kd b)
    (hw : wantedE ops e ⟨d, .binOp .lss t x y yt, ty, pos, af, g⟩ = true) : QuietAt P ops e w ⟨d, .binOp .lss t x y yt, ty, pos, af, g⟩ (.bool (decide (a < b))) :=
  .inl ⟨hw, rfl, (by simp [execOp, hx, hy, eqGuard, binOp, Op.intCmp])⟩
theorem q_leq {t yt : TypeId} {x y : Operand} {kd : IntKind} {a b : Int} (hx : ev e x = .int kd a) (hy : ev e y = .int kd b)
    (hw : wantedE ops e ⟨d, .binOp .leq t x y yt, ty, pos, af, g⟩ = true) : QuietAt P ops e w ⟨d, .binOp .leq t x y yt, ty, pos, af, g⟩ (.bool (decide (a ≤ b))) :=
  .inl ⟨hw, rfl, (by simp [execOp, hx, hy, eqGuard, binOp, Op.intCmp])⟩
theorem q_gtr {t yt : TypeId} {x y : Operand} {kd : IntKind} {a b : Int} (hx : ev e x = .int kd a) (hy : ev e y = .int kd b)
    (hw : wantedE ops e ⟨d, .binOp .gtr t x y yt, ty, pos, af, g⟩ = true) : QuietAt P ops e w ⟨d, .binOp .gtr t x y yt, ty, pos, af, g⟩ (.bool (decide (b < a))) :=
  .inl ⟨hw, rfl, (by simp [execOp, hx, hy, eqGuard, binOp, Op.intCmp])⟩
theorem q_geq {t yt : TypeId} {x y : Operand} {kd : IntKind} {a b : Int} (hx : ev e x = .int kd a) (hy : ev e y = .int kd b)
    (hw : wantedE ops e ⟨d, .binOp .geq t x y yt, ty, pos, af, g⟩ = true) : QuietAt P ops e w ⟨d, .binOp .geq t x y yt, ty, pos, af, g⟩ (.bool (decide (b ≤ a))) :=
  .inl ⟨hw, rfl, (by simp [execOp, hx, hy, eqGuard, binOp, Op.intCmp])⟩
theorem q_eql {t yt : TypeId} {x y : Operand} {kd : IntKind} {a b : Int} (hx : ev e x = .int kd a) (hy : ev e y = .int kd b)
    (hw : wantedE ops e ⟨d, .binOp .eql t x y yt, ty, pos, af, g⟩ = true) : QuietAt P ops e w ⟨d, .binOp .eql t x y yt, ty, pos, af, g⟩ (.bool (decide (a = b))) :=
  .inl ⟨hw, rfl, (by simp [execOp, hx, hy, eqGuard, binOp, Op.intCmp]; rfl)⟩
theorem q_neq {t yt : TypeId} {x y : Operand} {kd : IntKind} {a b : Int} (hx : ev e x = .int kd a) (hy : ev e y = .int kd b)
    (hw : wantedE ops e ⟨d, .binOp .neq t x y yt, ty, pos, af, g⟩ = true) : QuietAt P ops e w ⟨d, .binOp .neq t x y yt, ty, pos, af, g⟩ (.bool (!decide (a = b))) :=
  .inl ⟨hw, rfl, (by simp [execOp, hx, hy, eqGuard, binOp, Op.intCmp]; rfl)⟩

/-- bools -/
theorem run_equal_bool {P : Program} {t : TypeId} {w : World} {a b : Bool} (ht : P.underlying t = some .bool) : (Op.equal t (.bool a) (.bool b)).run P w = .ok (a == b) w := by
  have h : ∀ d, (Op.equalIn (d + 1) t (.bool a) (.bool b)).run P w = .ok (a == b) w := fun d => by simp [Op.equalIn, underlying, ht]
  exact h 9999
theorem beq_list (a b : List UInt8) : (a == b) = decide (a = b) := Bool.eq_iff_iff.2 (by simp)
theorem q_eql_bool {t yt : TypeId} {x y : Operand} {a b : Bool} (ht : P.underlying t = some .bool) (hx : ev e x = .bool a) (hy : ev e y = .bool b)
    (hw : wantedE ops e ⟨d, .binOp .eql t x y yt, ty, pos, af, g⟩ = true) : QuietAt P ops e w ⟨d, .binOp .eql t x y yt, ty, pos, af, g⟩ (.bool (a == b)) :=
  .inl ⟨hw, rfl, (by simp [execOp, hx, hy, eqGuard, binOp, run_equal_bool ht])⟩
/-- strings -/
theorem toList_mk (l : List UInt8) : ByteArray.toList ⟨⟨l⟩⟩ = l := by rw [ByteArray.toList_eq]
theorem q_eql_str {t yt : TypeId} {x y : Operand} {a b : List UInt8} (hx : ev e x = vstr a) (hy : ev e y = vstr b)
    (hw : wantedE ops e ⟨d, .binOp .eql t x y yt, ty, pos, af, g⟩ = true) : QuietAt P ops e w ⟨d, .binOp .eql t x y yt, ty, pos, af, g⟩ (.bool (decide (a = b))) :=
  .inl ⟨hw, rfl, (by simp [execOp, hx, hy, eqGuard, binOp, Op.stringOp, toList_mk, beq_list])⟩
theorem q_len_str {at_ : Array TypeId} {t : TypeId} {x : Operand} {a : List UInt8} (hat : at_[0]? = some t) (ht : P.underlying t = some .string) (hx : ev e x = vstr a)
    (hw : wantedE ops e ⟨d, .call ⟨.builtin .len, #[x], at_⟩, ty, pos, af, g⟩ = true) : QuietAt P ops e w ⟨d, .call ⟨.builtin .len, #[x], at_⟩, ty, pos, af, g⟩ (vint a.length) :=
  .inl ⟨hw, rfl, (by
    have h2 : (⟨⟨a⟩⟩ : ByteArray).size = a.length := rfl
    simp [execOp, resolve, invoke, builtin, Builtin.len_, hat, hx, underlying, ht, goInt, h2])⟩
theorem q_len {at_ : Array TypeId} {t el : TypeId} {x : Operand} {a : Option Addr} {n c : Nat} (hat : at_[0]? = some t) (ht : P.underlying t = some (.slice el)) (hx : ev e x = .slice a n c)
    (hw : wantedE ops e ⟨d, .call ⟨.builtin .len, #[x], at_⟩, ty, pos, af, g⟩ = true) : QuietAt P ops e w ⟨d, .call ⟨.builtin .len, #[x], at_⟩, ty, pos, af, g⟩ (vint n) :=
  .inl ⟨hw, rfl, (by simp [execOp, resolve, invoke, builtin, Builtin.len_, hat, hx, underlying, ht, goInt])⟩
theorem q_min {at_ : Array TypeId} {x y : Operand} {a b : Int} (hx : ev e x = vint a) (hy : ev e y = vint b)
    (hw : wantedE ops e ⟨d, .call ⟨.builtin .min, #[x, y], at_⟩, ty, pos, af, g⟩ = true) : QuietAt P ops e w ⟨d, .call ⟨.builtin .min, #[x, y], at_⟩, ty, pos, af, g⟩ (vint (min a b)) :=
  .inl ⟨hw, rfl, (by
    have : (if b < a then b else a) = min a b := by omega
    simp [execOp, resolve, invoke, builtin, Builtin.min_, Builtin.min2, hx, hy, this])⟩
theorem q_max {at_ : Array TypeId} {x y : Operand} {a b : Int} (hx : ev e x = vint a) (hy : ev e y = vint b)
    (hw : wantedE ops e ⟨d, .call ⟨.builtin .max, #[x, y], at_⟩, ty, pos, af, g⟩ = true) : QuietAt P ops e w ⟨d, .call ⟨.builtin .max, #[x, y], at_⟩, ty, pos, af, g⟩ (vint (max a b)) :=
  .inl ⟨hw, rfl, (by
    have : (if a < b then b else a) = max a b := by omega
    simp [execOp, resolve, invoke, builtin, Builtin.max_, Builtin.max2, hx, hy, this])⟩

theorem q_index_str {t : TypeId} {x y : Operand} {a : List UInt8} {i : Int} {c : UInt8} (ht : P.underlying t = some .string) (hx : ev e x = vstr a) (hy : ev e y = vint i) (hr : 0 ≤ i) (hc : a[i.toNat]? = some c)
    (hw : wantedE ops e ⟨d, .index t x y, ty, pos, af, g⟩ = true) : QuietAt P ops e w ⟨d, .index t x y, ty, pos, af, g⟩ (.int .u8 c.toNat) :=
  .inl ⟨hw, rfl, (by
    have h1 : (⟨⟨a⟩⟩ : ByteArray)[i.toNat]? = some c := by
      obtain ⟨hl, he⟩ := List.getElem?_eq_some_iff.1 hc
      have hs : i.toNat < (⟨⟨a⟩⟩ : ByteArray).size := hl
      rw [getElem?_pos (⟨⟨a⟩⟩ : ByteArray) i.toNat hs]
      exact congrArg some he
    simp [execOp, hx, hy, Instr.index, asIntOf, underlying, ht, hr, h1])⟩

theorem extract_mk (a : List UInt8) (l h : Nat) : ByteArray.extract ⟨⟨a⟩⟩ l h = ⟨⟨(a.take h).drop l⟩⟩ := by
  apply ByteArray.ext
  rw [ByteArray.data_extract]
  apply Array.ext'
  simp [List.extract_eq_take_drop]
  rw [List.take_drop]
  by_cases hlh : l ≤ h
  · rw [Nat.add_sub_cancel' hlh]
  · rw [List.drop_eq_nil_of_le (by simp; omega), List.drop_eq_nil_of_le (by simp; omega)]

theorem q_slice_str_lo {t : TypeId} {x y : Operand} {a : List UInt8} {lo : Int} (ht : P.underlying t = some .string) (hx : ev e x = vstr a) (hy : ev e y = vint lo) (hr : 0 ≤ lo ∧ lo ≤ a.length)
    (hw : wantedE ops e ⟨d, .slice t x (some y) none none, ty, pos, af, g⟩ = true) : QuietAt P ops e w ⟨d, .slice t x (some y) none none, ty, pos, af, g⟩ (vstr (a.drop lo.toNat)) :=
  .inl ⟨hw, rfl, (by
    have h2 : (⟨⟨a⟩⟩ : ByteArray).size = a.length := rfl
    simp [execOp, hx, hy, Instr.sliceAt, Instr.slice, Instr.sliceBounds, Instr.sliceBound, asIntOf, underlying, ht, h2, hr, extract_mk])⟩
theorem q_slice_str_hi {t : TypeId} {x z : Operand} {a : List UInt8} {hi : Int} (ht : P.underlying t = some .string) (hx : ev e x = vstr a) (hz : ev e z = vint hi) (hr : 0 ≤ hi ∧ hi ≤ a.length)
    (hw : wantedE ops e ⟨d, .slice t x none (some z) none, ty, pos, af, g⟩ = true) : QuietAt P ops e w ⟨d, .slice t x none (some z) none, ty, pos, af, g⟩ (vstr (a.take hi.toNat)) :=
  .inl ⟨hw, rfl, (by
    have h2 : (⟨⟨a⟩⟩ : ByteArray).size = a.length := rfl
    simp [execOp, hx, hz, Instr.sliceAt, Instr.slice, Instr.sliceBounds, Instr.sliceBound, asIntOf, underlying, ht, h2, hr, extract_mk])⟩

/-- int(x) of a smaller unsigned integer, or of an int -/
theorem q_toInt {s t : TypeId} {x : Operand} {kd : IntKind} {a : Int} {k0 : IntKind} (hs : P.underlying s = some (.int k0)) (ht : P.underlying t = some (.int .i64)) (hx : ev e x = .int kd a) (hr : -9223372036854775808 ≤ a ∧ a ≤ 9223372036854775807)
    (hw : wantedE ops e ⟨d, .convert s t x, ty, pos, af, g⟩ = true) : QuietAt P ops e w ⟨d, .convert s t x, ty, pos, af, g⟩ (vint a) :=
  .inl ⟨hw, rfl, (by simp [execOp, hx, convert, underlying, hs, ht, Conv.intToInt, wrap_in hr])⟩

theorem map_list {α β : Type} (f : α → β) (a : Array α) : a.map f = ⟨a.toList.map f⟩ := by apply Array.ext'; simp
theorem q_makeFunc {fn : Fn} {a b : Array Operand} {v : Value} (hv : Value.func fn ⟨a.toList.map (ev e)⟩ ⟨b.toList.map (ev e)⟩ = v) (hw : wantedE ops e ⟨d, .makeFunc fn a b, ty, pos, af, g⟩ = true)
    : QuietAt P ops e w ⟨d, .makeFunc fn a b, ty, pos, af, g⟩ v :=
  .inl ⟨hw, rfl, (by simp only [execOp, Instr.makeFunc, map_list (ev e), hv]; rfl)⟩

theorem q_build {t : TypeId} {ps : Array (Nat × Operand)} {v : Value} (hv : ∀ w, (Instr.build t ⟨ps.toList.map fun p => (p.1, ev e p.2)⟩).run P w = .ok v w)
    (hw : wantedE ops e ⟨d, .build t ps, ty, pos, af, g⟩ = true) : QuietAt P ops e w ⟨d, .build t ps, ty, pos, af, g⟩ v :=
  .inl ⟨hw, rfl, (by
    have h1 : (ps.map fun (i, x) => (i, ev e x)) = ⟨ps.toList.map fun p => (p.1, ev e p.2)⟩ := map_list _ ps
    simp only [execOp, h1, Sem.run_bind, hv, Result.andThen_ok, Sem.run_pure])⟩

/-- a call of a function by its name -/
theorem o_call {f : FuncId} {as : Array Operand} {at_ : Array TypeId} {args : List Value} {R K : Value → World → Prop}
    (hin : ∀ args w, (callFunc f args).run P w = .ok (.enter f args) w) (ha : as.toList.map (ev e) = args) (hc : Ret P f args w R)
    (hw : wantedE ops e ⟨d, .call ⟨.value (.func f), as, at_⟩, ty, pos, af, g⟩ = true)
    (h : ∀ v w', R v w' → K v w') : EffAt P ops e w ⟨d, .call ⟨.value (.func f), as, at_⟩, ty, pos, af, g⟩ K :=
  .inl ⟨hw, rfl, .inr (.inr (.inl ⟨f, args, w, by
    have h1 : (Array.map (ev e) as) = args.toArray := by rw [map_list, ha]
    have h2 : (#[] : Array Value) ++ args.toArray = args.toArray := Array.empty_append
    have h3 : args.toArray ++ (#[] : Array Value) = args.toArray := Array.append_empty
    simp only [execOp, resolve, ev, Deferred.ofValue, invoke, h1, hin, Sem.run_bind, Sem.run_pure, Result.andThen_ok, h2, h3], hc.mono h⟩))⟩
/-- a call of a function value -/
theorem o_callv {f : FuncId} {x : Operand} {as : Array Operand} {at_ : Array TypeId} {fst cap args : List Value} {R K : Value → World → Prop}
    (hx : ev e x = .func (.func f) ⟨fst⟩ ⟨cap⟩) (hin : ∀ args w, (callFunc f args).run P w = .ok (.enter f args) w) (ha : fst ++ as.toList.map (ev e) ++ cap = args) (hc : Ret P f args w R)
    (hw : wantedE ops e ⟨d, .call ⟨.value x, as, at_⟩, ty, pos, af, g⟩ = true)
    (h : ∀ v w', R v w' → K v w') : EffAt P ops e w ⟨d, .call ⟨.value x, as, at_⟩, ty, pos, af, g⟩ K :=
  .inl ⟨hw, rfl, .inr (.inr (.inl ⟨f, args, w, by
    have h1 : (⟨fst⟩ : Array Value) ++ (Array.map (ev e) as) ++ ⟨cap⟩ = args.toArray := by rw [← ha, map_list]; apply Array.ext'; simp
    simp only [execOp, resolve, hx, Deferred.ofValue, invoke, h1, hin, Sem.run_bind, Sem.run_pure, Result.andThen_ok], hc.mono h⟩))⟩

/-- a bool that a guard asks: parted, and written out -/
theorem l_part {l : List Oper} (s : Nat) {b : Bool} (hb : e s = .bool b) (ht : b = true → RunsL C ops l k (upd e s (.bool true)) D w) (hf : b = false → RunsL C ops l k (upd e s (.bool false)) D w) :
    RunsL C ops l k e D w := by
  have hs : ∀ v, e s = v → upd e s v = e := by
    intro v hv
    funext t
    unfold upd
    cases h : Nat.beq t s with
    | false => rfl
    | true => have := Nat.eq_of_beq_eq_true h; subst this; exact hv.symm
  cases b with
  | true => have := ht rfl; rwa [hs _ hb] at this
  | false => have := hf rfl; rwa [hs _ hb] at this

theorem upd_same {s : Nat} {v : Value} (hv : e s = v) : upd e s v = e := by
  funext t
  unfold upd
  cases h : Nat.beq t s with
  | false => rfl
  | true => have := Nat.eq_of_beq_eq_true h; subst this; exact hv.symm

theorem updo_comm {a b : Option Nat} {u v : Value} (h : ∀ t, a = some t → b ≠ some t) : updo (updo e a u) b v = updo (updo e b v) a u := by
  cases a with
  | none => rfl
  | some a =>
    cases b with
    | none => rfl
    | some b =>
      have hab : a ≠ b := fun he => h a rfl (by rw [he])
      funext t
      simp only [updo, upd]
      cases h1 : Nat.beq t b <;> cases h2 : Nat.beq t a <;> simp only [cond]
      have := Nat.eq_of_beq_eq_true h1
      have := Nat.eq_of_beq_eq_true h2
      omega

/-- a frame of which some slots are known -/
def L : List (Nat × Value) → Env → Env
  | [], e => e
  | (s, v) :: l, e => upd (L l e) s v
def Knows (e : Env) : List (Nat × Value) → Prop
  | [] => True
  | (s, v) :: l => e s = v ∧ Knows e l
theorem L_same {l : List (Nat × Value)} (h : Knows e l) : L l e = e := by
  induction l with
  | nil => rfl
  | cons p l ih =>
    obtain ⟨s, v⟩ := p
    simp only [L]
    rw [ih h.2]
    exact upd_same h.1
/-- forget all slots but these -/
theorem r_forget (l : List (Nat × Value)) (hl : Knows e l) (h : ∀ e0, Runs C k (L l e0) D w) : Runs C k e D w := by
  have := h e
  rwa [L_same hl] at this

end
end Go.Gv
namespace Go.Gv
open Go Go.RowKit

def Blk (w : World) (b : Nat) (cs : List Value) : Prop := ∃ T, w.heap[b]? = some (.cells ⟨cs⟩ T (0, 0))
def Has (w : World) (b o : Nat) (v : Value) : Prop := w.cell? ⟨b, o, none⟩ = some v
def Cells (w : World) (b o : Nat) (cs : List Value) : Prop := ∀ j v, cs[j]? = some v → Has w b (o + j) v
/-- nothing that was there has turned -/
abbrev Ext (w w' : World) : Prop := w.grownBy w' none

theorem Ext.refl (w : World) : Ext w w := ⟨rfl, rfl, rfl, Nat.le_refl _, fun _ _ _ => rfl⟩
theorem Ext.of_below {w w' : World} (h : Below w.heap.size w w') : Ext w w' := ⟨h.os, h.tape, h.output, h.size, fun k hk _ => h.block k hk⟩
theorem Ext.below {w w' : World} (h : Ext w w') : Below w.heap.size w w' := ⟨h.os, h.tape, h.output, h.size, fun k hk => h.block k hk (by simp)⟩
theorem Ext.trans {a b c : World} (h : Ext a b) (h' : Ext b c) : Ext a c :=
  .of_below (h.below.trans (h'.below.mono h.size))
theorem below_ext {B : Nat} {w0 w w' : World} (h : Below B w0 w) (hg : Ext w w') (hB : B ≤ w.heap.size) : Below B w0 w' :=
  h.grown hg hB (fun _ h => by simp at h)
theorem below_upd {B : Nat} {w0 w w' : World} {b : Nat} (h : Below B w0 w) (hg : w.grownBy w' (some b)) (hB : B ≤ w.heap.size) (hr : B ≤ b) : Below B w0 w' :=
  h.grown hg hB (fun k h => by cases h; exact hr)

theorem Blk.lt {w : World} {b : Nat} {cs : List Value} (h : Blk w b cs) : b < w.heap.size := by
  obtain ⟨T, h⟩ := h
  exact (Array.getElem?_eq_some_iff.1 h).1
theorem Blk.step {w w' : World} {row : Option Nat} {b : Nat} {cs : List Value} (h : Blk w b cs) (hg : w.grownBy w' row) (hne : some b ≠ row) : Blk w' b cs := by
  have hl := h.lt
  obtain ⟨T, h⟩ := h
  exact ⟨T, (hg.block b hl hne).trans h⟩
theorem Blk.ext {w w' : World} {b : Nat} {cs : List Value} (h : Blk w b cs) (hg : Ext w w') : Blk w' b cs := h.step hg (by simp)
theorem Blk.upd {w w' : World} {b b' : Nat} {cs : List Value} (h : Blk w b cs) (hg : w.grownBy w' (some b')) (hne : b ≠ b') : Blk w' b cs := h.step hg (by simpa using hne)
theorem Blk.below {w w' : World} {B b : Nat} {cs : List Value} (h : Blk w b cs) (hg : Below B w w') (hb : b < B) : Blk w' b cs := by
  obtain ⟨T, h⟩ := h
  exact ⟨T, (hg.block b hb).trans h⟩
theorem Blk.has {w : World} {b : Nat} {cs : List Value} (h : Blk w b cs) {o : Nat} {v : Value} (hv : cs[o]? = some v) : Has w b o v := by
  obtain ⟨T, h⟩ := h
  simp [Has, World.cell?, h, hv]
theorem Blk.cells {w : World} {b : Nat} {cs : List Value} (h : Blk w b cs) (o n : Nat) : Cells w b o ((cs.drop o).take n) := by
  intro j v hj
  refine h.has ?_
  rw [List.getElem?_take] at hj
  split at hj
  · rwa [List.getElem?_drop] at hj
  · cases hj
theorem Blk.cells' {w : World} {b : Nat} {cs cs' : List Value} (h : Blk w b cs) (o n : Nat) (he : (cs.drop o).take n = cs') : Cells w b o cs' := he ▸ h.cells o n
theorem Has.lt {w : World} {b o : Nat} {v : Value} (h : Has w b o v) : b < w.heap.size := World.block_lt_of_cell? w _ h
theorem Has.step {w w' : World} {row : Option Nat} {b o : Nat} {v : Value} (h : Has w b o v) (hg : w.grownBy w' row) (hne : some b ≠ row) : Has w' b o v := hg.cell h hne
theorem Has.ext {w w' : World} {b o : Nat} {v : Value} (h : Has w b o v) (hg : Ext w w') : Has w' b o v := h.step hg (by simp)
theorem Has.below {w w' : World} {B b o : Nat} {v : Value} (h : Has w b o v) (hg : Below B w w') (hb : b < B) : Has w' b o v :=
  (World.cell?_of_block (a := ⟨b, o, none⟩) (hg.block b hb)).trans h
theorem Cells.ext {w w' : World} {b o : Nat} {cs : List Value} (h : Cells w b o cs) (hg : Ext w w') : Cells w' b o cs := fun j v hj => (h j v hj).ext hg
theorem Cells.step {w w' : World} {row : Option Nat} {b o : Nat} {cs : List Value} (h : Cells w b o cs) (hg : w.grownBy w' row) (hne : some b ≠ row) : Cells w' b o cs := fun j v hj => (h j v hj).step hg hne
theorem Cells.below {w w' : World} {B b o : Nat} {cs : List Value} (h : Cells w b o cs) (hg : Below B w w') (hb : b < B) : Cells w' b o cs := fun j v hj => (h j v hj).below hg hb

/-- a slice of n elements of sz cells each reads as cs -/
def Row (w : World) (a : Option Addr) (n c sz : Nat) (cs : List Value) : Prop :=
  cs.length = n * sz ∧ n ≤ c ∧ (cs = [] ∨ ∃ b o, a = some ⟨b, o, none⟩ ∧ Cells w b o cs)

theorem Row.ext {w w' : World} {a : Option Addr} {n c sz : Nat} {cs : List Value} (h : Row w a n c sz cs) (hg : Ext w w') : Row w' a n c sz cs :=
  ⟨h.1, h.2.1, h.2.2.imp id fun ⟨b, o, ha, hc⟩ => ⟨b, o, ha, hc.ext hg⟩⟩
theorem Row.below {w w' : World} {a : Option Addr} {n c sz : Nat} {cs : List Value} (h : Row w a n c sz cs) (hg : Below w.heap.size w w') : Row w' a n c sz cs := h.ext (.of_below hg)
/-- across a step that turns a block in which the row does not lie -/
theorem Row.step {w w' : World} {row : Option Nat} {a : Option Addr} {n c sz : Nat} {cs : List Value} (h : Row w a n c sz cs) (hg : w.grownBy w' row) (hne : ∀ x, a = some x → some x.block ≠ row) : Row w' a n c sz cs :=
  ⟨h.1, h.2.1, h.2.2.imp id fun ⟨b, o, ha, hc⟩ => ⟨b, o, ha, hc.step hg (hne _ ha)⟩⟩
theorem Row.nil (w : World) (a : Option Addr) (c sz : Nat) : Row w a 0 c sz [] := ⟨by simp, Nat.zero_le _, .inl rfl⟩
theorem Row.of_owns {w : World} {base e sz : Nat} {a : Option Addr} {n c : Nat} {cs : List Value} (h : w.ownsRow base e sz (.slice a n c) n cs) : Row w a n c sz cs := by
  refine ⟨h.1, ?_, ?_⟩
  · rcases h.2 with ⟨h', h0⟩ | ⟨g, cap, cur, h', _, _, hn, _⟩
    · omega
    · cases h'; exact hn
  · rcases h.2 with ⟨h', h0⟩ | ⟨g, cap, cur, h', _⟩
    · left
      exact List.eq_nil_of_length_eq_zero (by rw [h.1, h0]; simp)
    · right
      cases h'
      refine ⟨g, 0, rfl, fun j v hj => ?_⟩
      have := World.ownsRow.cells h (g := g) rfl j v hj
      rw [Addr.add_lit] at this
      exact this
theorem owns_slice {w : World} {base e sz : Nat} {v : Value} {n : Nat} {cs : List Value} (h : w.ownsRow base e sz v n cs) : ∃ a c, v = .slice a n c := by
  rcases h.2 with ⟨h', h0⟩ | ⟨g, cap, cur, h', _⟩
  · subst h0; exact ⟨_, _, h'⟩
  · exact ⟨_, _, h'⟩

/-- an element of a slice, by its number: elements of one cell -/
theorem Row.at1 {α : Type} {f : α → Value} {xs : List α} {w : World} {a : Option Addr} {n c : Nat} (h : Row w a n c 1 (xs.map f)) (i : Nat) (x : α) (hx : xs[i]? = some x) : ∃ b o, a = some ⟨b, o, none⟩ ∧ Has w b (o + i) (f x) := by
  rcases h.2.2 with h0 | ⟨b, o, ha, hc⟩
  · simp at h0; subst h0; simp at hx
  · exact ⟨b, o, ha, hc i _ (by simp [hx])⟩
/-- elements of several cells -/
theorem Row.at {w : World} {a : Option Addr} {n c sz : Nat} {cs : List Value} (h : Row w a n c sz cs) (hp : 0 < sz) (i : Nat) (hi : i < n) : ∃ b o, a = some ⟨b, o, none⟩ ∧ Cells w b (o + i * sz) ((cs.drop (i * sz)).take sz) := by
  rcases h.2.2 with h0 | ⟨b, o, ha, hc⟩
  · have := h.1
    rw [h0] at this
    have : n * sz ≠ 0 := Nat.ne_of_gt (Nat.mul_pos (by omega) hp)
    simp at *
    omega
  · refine ⟨b, o, ha, fun j v hj => ?_⟩
    rw [List.getElem?_take] at hj
    split at hj
    · rw [List.getElem?_drop] at hj
      have := hc _ v hj
      rwa [← Nat.add_assoc] at this
    · cases hj

/-- what the program's table says of an element type -/
structure Elem (P : Program) (el : TypeId) (z : Value) (sz bytes : Nat) : Prop where
  info : ∃ i, P.info? el = some i ∧ i.zero = some z ∧ i.size = sz ∧ i.bytes = bytes
  zs : z.cells.size = sz
  pos : 0 < sz

theorem elem_of {P : Program} {el : TypeId} {z : Value} {sz bytes : Nat} (h : (P.info? el).map (fun i => (i.zero, i.size, i.bytes)) = some (some z, sz, bytes)) (hz : z.cells.size = sz) (hp : 0 < sz) : Elem P el z sz bytes := by
  refine ⟨?_, hz, hp⟩
  cases hi : P.info? el with
  | none => simp [hi] at h
  | some i => simp [hi] at h; exact ⟨i, rfl, h.1, h.2.1, h.2.2⟩

theorem Elem.size {P : Program} {el : TypeId} {z : Value} {sz bytes : Nat} (h : Elem P el z sz bytes) (w : World) : (sizeOf el).run P w = .ok sz w := by
  obtain ⟨i, hi, hz, hs, hb⟩ := h.info
  simp [sizeOf, typeInfo, hi, hs]
theorem Elem.zero {P : Program} {el : TypeId} {z : Value} {sz bytes : Nat} (h : Elem P el z sz bytes) (w : World) : (zeroValue el).run P w = .ok z w := by
  obtain ⟨i, hi, hz, hs, hb⟩ := h.info
  simp [zeroValue, typeInfo, hi, hz]

section
variable {C : Ctx} {P : Program} {ops : Array Oper} {rest : List Oper} {k : List Item} {e : Env} {D : List Deferred} {w : World}
variable {d : Option Nat} {ty : TypeId} {pos : String} {af : Array Edge} {g : Option (Nat × Bool)}

theorem blk_new (w : World) (cs : List Value) (T : TypeId) : Blk (w.alloc (.cells ⟨cs⟩ T)) w.heap.size cs := ⟨T, heap_alloc_new w _⟩

theorem o_box {K : Value → World → Prop} {t : TypeId} {x : Operand} {v : Value} {cs : List Value} (hx : ev e x = v) (hcs : v.cells = ⟨cs⟩) (hw : wantedE ops e ⟨d, .box t x, ty, pos, af, g⟩ = true)
    (h : ∀ b w', w.heap.size ≤ b → b < w'.heap.size → w.heap.size ≤ w'.heap.size → Blk w' b cs → Ext w w' → K ((ptr b 0)) w') : EffAt P ops e w ⟨d, .box t x, ty, pos, af, g⟩ K :=
  e_value (w' := w.alloc (.cells ⟨cs⟩ t)) hw rfl (by simp [execOp, hx, Instr.box, newVar, newRow, hcs])
    (h w.heap.size _ (Nat.le_refl _) (by simp) (by simp) (blk_new w cs t) (World.grownBy_alloc w _ none))

theorem o_alloc {K : Value → World → Prop} {t : TypeId} {z : Value} {cs : List Value} (hz : ∀ w, (zeroValue t).run P w = .ok z w) (hcs : z.cells = ⟨cs⟩) (hw : wantedE ops e ⟨d, .alloc t, ty, pos, af, g⟩ = true)
    (h : ∀ b w', w.heap.size ≤ b → b < w'.heap.size → w.heap.size ≤ w'.heap.size → Blk w' b cs → Ext w w' → K ((ptr b 0)) w') : EffAt P ops e w ⟨d, .alloc t, ty, pos, af, g⟩ K :=
  e_value (w' := w.alloc (.cells ⟨cs⟩ t)) hw rfl (by simp [execOp, Instr.alloc, hz, newVar, newRow, hcs])
    (h w.heap.size _ (Nat.le_refl _) (by simp) (by simp) (blk_new w cs t) (World.grownBy_alloc w _ none))

theorem q_load {t : TypeId} {x : Operand} {b o : Nat} {v : Value} (hag : ∀ w, (isAgg t).run P w = .ok false w) (hx : ev e x = ptr b o) (hc : Has w b o v) (hw : wantedE ops e ⟨d, .load t x, ty, pos, af, g⟩ = true)
    : QuietAt P ops e w ⟨d, .load t x, ty, pos, af, g⟩ v :=
  .inl ⟨hw, rfl, (by
    have hc' : w.cell? ⟨b, o, none⟩ = some v := hc
    simp [execOp, hx, Instr.loadAt, Instr.sureAddr, loadVar, hag, hc'])⟩

theorem q_load_agg {t : TypeId} {x : Operand} {b o n : Nat} {cs : List Value} (hag : ∀ w, (isAgg t).run P w = .ok true w) (hsz : ∀ w, (sizeOf t).run P w = .ok n w) (hx : ev e x = ptr b o) (hc : Cells w b o cs) (hn : cs.length = n) (hw : wantedE ops e ⟨d, .load t x, ty, pos, af, g⟩ = true)
    : QuietAt P ops e w ⟨d, .load t x, ty, pos, af, g⟩ ((.agg ⟨cs⟩)) :=
  .inl ⟨hw, rfl, (by
    subst hn
    have hl := run_loadCells_list (P := P) w ⟨b, o, none⟩ cs (fun j v hj => by rw [Addr.add_lit]; exact hc j v hj)
    simp [execOp, hx, Instr.loadAt, Instr.sureAddr, loadVar, hag, hsz, hl])⟩

theorem o_store {K : Value → World → Prop} {t : TypeId} {x y : Operand} {b o : Nat} {v : Value} {cs vs cs' : List Value} (hsz : ∀ w, (sizeOf t).run P w = .ok vs.length w) (hx : ev e x = ptr b o) (hy : ev e y = v) (hv : v.cells = ⟨vs⟩) (h1 : vs.all Value.oneCell' = true)
    (hb : Blk w b cs) (hf : o + vs.length ≤ cs.length) (hcs : cs.take o ++ vs ++ cs.drop (o + vs.length) = cs') (hw : wantedE ops e ⟨d, .store t x y, ty, pos, af, g⟩ = true)
    (h : ∀ w', w'.heap.size = w.heap.size → Blk w' b cs' → w.grownBy w' (some b) → K undef w') : EffAt P ops e w ⟨d, .store t x y, ty, pos, af, g⟩ K := by
  obtain ⟨T, hT⟩ := hb
  have hst := run_storeCells_at P b o T vs 0 ⟨cs⟩ w hT (by simpa using hf) (fun v hv => List.all_eq_true.1 h1 v hv)
  simp only [Nat.add_zero, hcs] at hst
  refine e_done (w' := w.setRow b ⟨cs'⟩) hw rfl ?_ (h _ (by simp) ⟨T, setRow_heap w b _ _ T _ hT⟩ ⟨rfl, rfl, rfl, by simp, fun k _ hk => setRow_other w b k _ (fun e => hk (by simp [e]))⟩)
  simp [execOp, hx, hy, Instr.storeAt, Instr.sureAddr, storeVar, hsz, hv, hst]

/-- &x.f: the field lies o' cells on -/
theorem q_fieldAddr {t : TypeId} {x : Operand} {f b o o' : Nat} (hx : ev e x = ptr b o) (hf : ∀ w b o, (Instr.fieldAt t (ptr b o) f).run P w = .ok (ptr b (o + o')) w) (hw : wantedE ops e ⟨d, .fieldAddr t x f, ty, pos, af, g⟩ = true)
    : QuietAt P ops e w ⟨d, .fieldAddr t x f, ty, pos, af, g⟩ ((ptr b (o + o'))) :=
  .inl ⟨hw, rfl, (by simp [execOp, hx, hf])⟩

theorem q_indexAddr {t el : TypeId} {x y : Operand} {a : Option Addr} {n c sz b o : Nat} {kd : IntKind} {i : Int} (ht : P.underlying t = some (.slice el)) (hsz : ∀ w, (sizeOf el).run P w = .ok sz w)
    (hx : ev e x = .slice a n c) (ha : a = some ⟨b, o, none⟩) (hy : ev e y = .int kd i) (hr : 0 ≤ i ∧ i < n) (hw : wantedE ops e ⟨d, .indexAddr t x y, ty, pos, af, g⟩ = true) :
    QuietAt P ops e w ⟨d, .indexAddr t x y, ty, pos, af, g⟩ (ptr b (o + i.toNat * sz)) :=
  .inl ⟨hw, rfl, by
    subst ha
    simp [execOp, hx, hy, Instr.indexAt, asIntOf, run_underlying ht, hr, hsz, Addr.add_lit]⟩
/-- elements of one cell -/
theorem q_indexAddr1 {t el : TypeId} {x y : Operand} {a : Option Addr} {n c b o : Nat} {kd : IntKind} {i : Int} (ht : P.underlying t = some (.slice el)) (hsz : ∀ w, (sizeOf el).run P w = .ok 1 w)
    (hx : ev e x = .slice a n c) (ha : a = some ⟨b, o, none⟩) (hy : ev e y = .int kd i) (hr : 0 ≤ i ∧ i < n) (hw : wantedE ops e ⟨d, .indexAddr t x y, ty, pos, af, g⟩ = true) :
    QuietAt P ops e w ⟨d, .indexAddr t x y, ty, pos, af, g⟩ (ptr b (o + i.toNat)) :=
  .inl ⟨hw, rfl, by
    subst ha
    simp [execOp, hx, hy, Instr.indexAt, asIntOf, run_underlying ht, hr, hsz, Addr.add_lit]⟩

/-- an element of an array in memory -/
theorem q_indexAddr_arr {t el : TypeId} {x y : Operand} {n sz b o : Nat} {kd : IntKind} {i : Int} (ht : P.underlying t = some (.array n el)) (hsz : ∀ w, (sizeOf el).run P w = .ok sz w)
    (hx : ev e x = ptr b o) (hy : ev e y = .int kd i) (hr : 0 ≤ i ∧ i < n) (hw : wantedE ops e ⟨d, .indexAddr t x y, ty, pos, af, g⟩ = true)
    : QuietAt P ops e w ⟨d, .indexAddr t x y, ty, pos, af, g⟩ ((ptr b (o + i.toNat * sz))) :=
  .inl ⟨hw, rfl, (by simp [execOp, hx, hy, Instr.indexAt, asIntOf, run_underlying ht, Instr.sureAddr, hr, hsz, Addr.add_lit])⟩

theorem Row.slice {w : World} {a : Option Addr} {n c sz : Nat} {cs : List Value} (h : Row w a n c sz cs) {lo hi : Nat} (h1 : lo ≤ hi) (h2 : hi ≤ n) :
    Row w (if c = lo then a else a.map (·.add (lo * sz))) (hi - lo) (c - lo) sz ((cs.take (hi * sz)).drop (lo * sz)) := by
  obtain ⟨hl, hc, hr⟩ := h
  have hsz : hi * sz ≤ n * sz := Nat.mul_le_mul_right _ h2
  refine ⟨by simp [Nat.min_eq_left (hl ▸ hsz : hi * sz ≤ cs.length), Nat.sub_mul], by omega, ?_⟩
  rcases hr with rfl | ⟨b, o, rfl, hce⟩
  · left; simp
  · by_cases he : c = lo
    · left
      have : hi = lo := by omega
      subst this
      exact List.drop_eq_nil_of_le (by simp; exact Nat.min_le_left _ _)
    · right
      refine ⟨b, o + lo * sz, by simp [he, Addr.add_lit], fun j v hj => ?_⟩
      rw [List.getElem?_drop, List.getElem?_take] at hj
      split at hj
      · have := hce _ v hj
        rwa [← Nat.add_assoc] at this
      · cases hj

/-- s[lo:hi] of a slice -/
theorem q_slice {t el : TypeId} {x : Operand} {y z : Option Operand} {a : Option Addr} {n c sz : Nat} {lo hi : Int} (ht : P.underlying t = some (.slice el)) (hsz : ∀ w, (sizeOf el).run P w = .ok sz w)
    (hx : ev e x = .slice a n c) (hy : (y.map (ev e)).getD (vint 0) = vint lo) (hz : (z.map (ev e)).getD (vint n) = vint hi) (hr : 0 ≤ lo ∧ lo ≤ hi ∧ hi ≤ n) (hnc : n ≤ c)
    (hw : wantedE ops e ⟨d, .slice t x y z none, ty, pos, af, g⟩ = true)
    : QuietAt P ops e w ⟨d, .slice t x y z none, ty, pos, af, g⟩ ((.slice (if c = lo.toNat then a else a.map (·.add (lo.toNat * sz))) (hi.toNat - lo.toNat) (c - lo.toNat))) := by
  refine .inl ⟨hw, rfl, ?_⟩
  have h3 : 0 ≤ hi ∧ hi ≤ (c : Int) := by omega
  have h4 : 0 ≤ lo ∧ lo ≤ ((hi.toNat : Nat) : Int) := by omega
  cases y with
  | none =>
    simp at hy
    subst hy
    cases z with
    | none =>
      simp at hz
      subst hz
      simp [execOp, hx, Instr.sliceAt, Instr.slice, Instr.sliceBounds, run_underlying ht, hsz]
    | some z =>
      simp at hz
      simp [execOp, hx, hz, Instr.sliceAt, Instr.slice, Instr.sliceBounds, Instr.sliceBound, asIntOf, run_underlying ht, hsz, h3]
  | some y =>
    simp at hy
    cases z with
    | none =>
      simp at hz
      subst hz
      have h6 : lo ≤ (n : Int) := by omega
      simp [execOp, hx, hy, Instr.sliceAt, Instr.slice, Instr.sliceBounds, Instr.sliceBound, asIntOf, run_underlying ht, hsz, hr, h6]
    | some z =>
      simp at hz
      simp [execOp, hx, hy, hz, Instr.sliceAt, Instr.slice, Instr.sliceBounds, Instr.sliceBound, asIntOf, run_underlying ht, hsz, h3, h4]
      intro hh; omega

/-- []T{..}: the cells by the model's own function -/
theorem o_buildSlice {K : Value → World → Prop} {t el : TypeId} {n sz bytes : Nat} {z : Value} {ps : Array (Nat × Operand)} {cs : List Value} (ht : P.underlying t = some (.slice el)) (he : Elem P el z sz bytes) (hsm : n * sz ≤ 16777216)
    (hf : Instr.fill (fun i => some (i * sz, sz)) ((Array.range (n * sz)).map (z.cells[· % z.cells.size]!)) (ps.toList.map fun p => (p.1, ev e p.2)) = some ⟨cs⟩) (hcl : cs.length = n * sz)
    (hml : n ≤ maxLen)
    (hw : wantedE ops e ⟨d, .buildSlice t n ps, ty, pos, af, g⟩ = true)
    (h : ∀ b w', w.heap.size ≤ b → b < w'.heap.size → w.heap.size ≤ w'.heap.size → Blk w' b cs → Ext w w' → w'.ownsRow w.heap.size el sz (.slice (some ⟨b, 0, none⟩) n n) n cs →
      K ((.slice (some ⟨b, 0, none⟩) n n)) w') : EffAt P ops e w ⟨d, .buildSlice t n ps, ty, pos, af, g⟩ K := by
  refine e_value (w' := w.alloc (.cells ⟨cs⟩ el)) hw rfl ?_ (h w.heap.size _ (Nat.le_refl _) (by simp) (by simp) (blk_new w cs el) (World.grownBy_alloc w _ none) (World.ownsRow_lit w ⟨cs⟩ n (Nat.le_refl _) hml hcl))
  have hs : ¬ (16777216 < n * sz) := by omega
  by_cases h0 : n * sz = 0
  · have he0 : (Array.range (n * sz)).map (z.cells[· % z.cells.size]!) = #[] := by rw [h0]; simp [Array.range_zero']
    rw [he0] at hf
    simp only [execOp, Instr.buildSlice, Sem.run_bind, run_underlying ht, Result.andThen_ok, he.size, Sem.run_ite, h0]
    simp [Array.range_zero', hf, newRow]
  · simp only [execOp, Instr.buildSlice, Sem.run_bind, run_underlying ht, Result.andThen_ok, he.size, Sem.run_ite, h0]
    simp [hs, he.zero, hf, newRow]

/-- make([]T, n) -/
theorem o_makeSlice {K : Value → World → Prop} {t el : TypeId} {x y : Operand} {n sz bytes : Nat} {z : Value} (ht : P.underlying t = some (.slice el)) (he : Elem P el z sz bytes)
    (hx : ev e x = vint n) (hy : ev e y = vint n) (hb : bytes * n ≤ 281474976710656) (hml : n ≤ maxLen)
    (hw : wantedE ops e ⟨d, .makeSlice t x y, ty, pos, af, g⟩ = true)
    (h : ∀ b w', w.heap.size ≤ b → b < w'.heap.size → w.heap.size ≤ w'.heap.size → Blk w' b (madeCells z.cells (n * sz)).toList → Ext w w' → w'.ownsRow w.heap.size el sz (.slice (some ⟨b, 0, none⟩) n n) n (madeCells z.cells (n * sz)).toList →
      K ((.slice (some ⟨b, 0, none⟩) n n)) w') : EffAt P ops e w ⟨d, .makeSlice t x y, ty, pos, af, g⟩ K := by
  obtain ⟨i, hi, hz, hs, hby⟩ := he.info
  have hn : (n : Int) ≤ 9223372036854775807 := by have := hml; simp only [maxLen] at this; omega
  have hbi : (i.bytes : Int) * (n : Int) ≤ 281474976710656 := by
    rw [hby]
    have h : ((bytes * n : Nat) : Int) ≤ 281474976710656 := by omega
    rwa [Int.natCast_mul] at h
  have hr := run_make (P := P) w t el i z ht hi hz .i64 .i64 n n (by omega) (Int.le_refl _) hbi hn
  simp only [Int.toNat_natCast, hs] at hr
  refine e_value hw rfl (by simp [execOp, hx, hy, hr]) (h w.heap.size _ (Nat.le_refl _) (by simp) (by simp) ⟨el, ?_⟩ (World.grownBy_alloc w _ none) (World.ownsRow_lit w _ n (Nat.le_refl _) hml (size_madeCells _ _)))
  exact heap_alloc_new w _

/-- append(s, x...) where s is nil or of the call's own -/
theorem o_append {K : Value → World → Prop} {t el : TypeId} {at_ : Array TypeId} {x y : Operand} {z : Value} {sz bytes base : Nat} {a a2 : Option Addr} {n c m c2 : Nat} {xs news : List Value} (ht : P.underlying t = some (.slice el)) (he : Elem P el z sz bytes) (hat : at_ = #[t, t])
    (hx : ev e x = .slice a n c) (hown : w.ownsRow base el sz (.slice a n c) n xs) (hy : ev e y = .slice a2 m c2) (hrow : Row w a2 m c2 sz news) (h1 : news.all Value.oneCell' = true)
    (h63 : n + m ≤ maxLen) (hbytes : (n + m) * bytes ≤ 140737488355328) (hbase : base ≤ w.heap.size)
    (hw : wantedE ops e ⟨d, .call ⟨.builtin .append, #[x, y], at_⟩, ty, pos, af, g⟩ = true)
    (h : ∀ a' c' w', w.heap.size ≤ w'.heap.size → w'.ownsRow base el sz (.slice a' (n + m) c') (n + m) (xs ++ news) → w.grownBy w' (Value.ownBlock (.slice a n c)) →
      K ((.slice a' (n + m) c')) w') : EffAt P ops e w ⟨d, .call ⟨.builtin .append, #[x, y], at_⟩, ty, pos, af, g⟩ K := by
  subst hat
  obtain ⟨i, hi, hz, hs, hby⟩ := he.info
  rcases hrow.2.2 with h0 | ⟨b, o, ha, hc⟩
  · subst h0
    have hm : m = 0 := by
      have h := hrow.1
      rw [List.length_nil] at h
      rcases Nat.mul_eq_zero.1 h.symm with h | h
      · exact h
      · have := he.pos; omega
    subst hm
    have hr : (Builtin.append_ #[t, t] ty #[.slice a n c, .slice a2 0 c2]).run P w = .ok (.slice a n c) w := by
      have hnc : n ≤ c := by
        rcases hown.2 with ⟨h', h0⟩ | ⟨g, cap, cur, h', _, _, hn, _⟩
        · omega
        · cases h'; exact hn
      cases a <;> cases a2 <;> simp [Builtin.append_, run_underlying ht, sizeOf, typeInfo, hi, Builtin.lenOf, Builtin.firstCells, loadCells, loadCellsFrom, hnc, storeCells]
    refine e_value (v := .slice a n c) (w' := w) hw rfl ?_ (h a c w (Nat.le_refl _) (by simpa using hown) ⟨rfl, rfl, rfl, Nat.le_refl _, fun _ _ _ => rfl⟩)
    simp [execOp, resolve, invoke, builtin, hx, hy, hr]
  · subst ha
    obtain ⟨v', w', hr, h2, h3, _⟩ := run_append_own (P := P) w base t ty el i z sz bytes ht hi hz hs hby he.zs he.pos (.slice a n c) n xs hown ⟨b, o, none⟩ m c2 news hrow.1
      (fun j u hj => by rw [Addr.add_lit]; exact hc j u hj) (fun u hu => List.all_eq_true.1 h1 u hu) h63 hbytes hbase
    obtain ⟨a', c', rfl⟩ := owns_slice h2
    refine e_value (v := .slice a' (n + m) c') (w' := w') hw rfl ?_ (h a' c' w' h3.size h2 h3)
    simp [execOp, resolve, invoke, builtin, hx, hy, hr]

end
end Go.Gv
namespace Go.Gv
open Go Go.RowKit

section
variable {C : Ctx} {ops : Array Oper} {k : List Item} {D : List Deferred}

/-- one walk: eff: the operations that turn the world, or hand back what is not fixed; all others are quiet in every world that Cls lets -/
def Mix (P : Program) (ops : Array Oper) (Cls : World → World → Prop) (eff : List Nat) (K : Env → World → Prop) : List Nat → Env → World → Prop
  | [], e, w => K e w
  | i :: l, e, w => ∃ o, ops[i]? = some o ∧
      if eff.contains i then EffAt P ops e w o (fun v w' => (eff.contains (i + 1000) = false → Cls w w') ∧ Mix P ops Cls eff K l (updo e o.dst v) w')
      else ∃ v, (∀ w', Cls w w' → QuietAt P ops e w' o v) ∧ Mix P ops Cls eff K l (updo e o.dst v) w

def notSelect (o : Oper) : Bool := match o.op with | .select .. => false | _ => true
theorem notSelect_spec {o : Oper} (h : notSelect o = true) : ∀ cs b, o.op ≠ .select cs b := fun cs b he => by simp [notSelect, he] at h

theorem ev_updo {e : Env} {dst : Option Nat} {v : Value} {x : Operand} (h : ∀ d, dst = some d → x ≠ .tmp d) : ev (updo e dst v) x = ev e x := by
  cases dst with
  | none => rfl
  | some d =>
    cases x with
    | tmp t =>
      have hne : t ≠ d := fun he => h d rfl (by rw [he])
      simp only [ev, updo, upd]
      cases h1 : Nat.beq t d with
      | false => rfl
      | true => exact absurd (Nat.eq_of_beq_eq_true h1) hne
    | _ => rfl

theorem exec_updo {e : Env} {dst : Option Nat} {v : Value} {o : Oper} (hs : notSelect o = true) (h : ∀ d, dst = some d → d ∉ o.looksAt ops) : execOp (ev (updo e dst v)) o = execOp (ev e) o :=
  execOp_congr o (notSelect_spec hs) fun x hx => ev_updo fun d hd hxd => h d hd (by
    subst hxd
    exact List.mem_append_left _ (List.mem_filterMap.2 ⟨.tmp d, by simpa using hx, rfl⟩))

theorem wanted_updo {e : Env} {dst : Option Nat} {v : Value} {o : Oper} (h : ∀ d, dst = some d → d ∉ o.looksAt ops) : wantedE ops (updo e dst v) o = wantedE ops e o := by
  cases dst with
  | none => rfl
  | some d =>
    unfold wantedE
    cases hg : o.guard with
    | none => rfl
    | some gw =>
      obtain ⟨g, want⟩ := gw
      simp only []
      cases ht : (ops[g]?).bind (·.dst) with
      | none => rfl
      | some t =>
        have hne : t ≠ d := fun e => h d rfl (by subst e; simp [Oper.looksAt, hg, ht])
        simp only [updo, upd]
        cases h1 : Nat.beq t d with
        | false => rfl
        | true => exact absurd (Nat.eq_of_beq_eq_true h1) hne

theorem QuietAt.updo {P : Program} {e : Env} {dst : Option Nat} {u v : Value} {o : Oper} {w : World} (hs : notSelect o = true) (h : ∀ d, dst = some d → d ∉ o.looksAt ops) :
    QuietAt P ops (Gv.updo e dst u) w o v ↔ QuietAt P ops e w o v := by
  unfold QuietAt
  rw [wanted_updo h, exec_updo hs h]
theorem EffAt.updo {P : Program} {e : Env} {dst : Option Nat} {u : Value} {o : Oper} {w : World} {K : Value → World → Prop} (hs : notSelect o = true) (h : ∀ d, dst = some d → d ∉ o.looksAt ops) :
    EffAt P ops (Gv.updo e dst u) w o K ↔ EffAt P ops e w o K := by
  unfold EffAt
  rw [wanted_updo h, exec_updo hs h]

/-- two neighbours change places: the first is quiet, and neither looks at what the other writes -/
theorem mix_swap {P : Program} {Cls : World → World → Prop} (hrefl : ∀ w, Cls w w) (htrans : ∀ a b c, Cls a b → Cls b c → Cls a c) {eff : List Nat} {K : Env → World → Prop} {i j : Nat} {l : List Nat} {e : Env} {w : World}
    (hi : eff.contains i = false) (hlj : eff.contains (j + 1000) = false) {oi oj : Oper} (hoi : ops[i]? = some oi) (hoj : ops[j]? = some oj) (hap : oi.apart ops oj = true) (hsi : notSelect oi = true) (hsj : notSelect oj = true)
    (h : Mix P ops Cls eff K (i :: j :: l) e w) : Mix P ops Cls eff K (j :: i :: l) e w := by
  obtain ⟨h1, h2, h3⟩ := Oper.apart_spec hap
  simp only [Mix] at h ⊢
  obtain ⟨oi', hoi', h⟩ := h
  rw [hoi] at hoi'
  cases hoi'
  simp only [hi, if_neg Bool.false_ne_true] at h
  obtain ⟨vi, hqi, oj', hoj', h⟩ := h
  rw [hoj] at hoj'
  cases hoj'
  refine ⟨oj, hoj, ?_⟩
  by_cases hj : eff.contains j = true
  · simp only [hj, if_true] at h ⊢
    refine ((EffAt.updo hsj h1).1 h).mono fun v w' ⟨hc, hm⟩ => ⟨hc, oi, hoi, ?_⟩
    simp only [hi, if_neg Bool.false_ne_true]
    refine ⟨vi, fun w'' hc' => (QuietAt.updo hsi h3).2 (hqi w'' (htrans _ _ _ (hc hlj) hc')), ?_⟩
    rw [← updo_comm h2]
    exact hm
  · have hj : eff.contains j = false := by simpa using hj
    simp only [hj, if_neg Bool.false_ne_true] at h ⊢
    obtain ⟨vj, hqj, hm⟩ := h
    refine ⟨vj, fun w' hc => (QuietAt.updo hsj h1).1 (hqj w' hc), oi, hoi, ?_⟩
    simp only [hi, if_neg Bool.false_ne_true]
    refine ⟨vi, fun w' hc => (QuietAt.updo hsi h3).2 (hqi w' hc), ?_⟩
    rw [← updo_comm h2]
    exact hm

theorem mix_mono {P : Program} {Cls : World → World → Prop} {eff : List Nat} {K : Env → World → Prop} {l l' : List Nat} (h : ∀ e w, Mix P ops Cls eff K l e w → Mix P ops Cls eff K l' e w) (i : Nat) {e : Env} {w : World}
    (hm : Mix P ops Cls eff K (i :: l) e w) : Mix P ops Cls eff K (i :: l') e w := by
  simp only [Mix] at hm ⊢
  obtain ⟨o, ho, hm⟩ := hm
  refine ⟨o, ho, ?_⟩
  by_cases hi : eff.contains i = true
  · rw [if_pos hi] at hm ⊢
    exact hm.mono fun v w' hx => ⟨hx.1, h _ _ hx.2⟩
  · rw [if_neg hi] at hm ⊢
    obtain ⟨v, hq, hm⟩ := hm
    exact ⟨v, hq, h _ _ hm⟩

/-- what must hold of an operation that is left standing when another goes ahead of it -/
def okPair (ops : Array Oper) (eff : List Nat) (y x : Nat) : Bool :=
  (!eff.contains y && !eff.contains (x + 1000)) && (match ops[y]?, ops[x]? with
    | some oy, some ox => oy.apart ops ox && notSelect oy && notSelect ox
    | _, _ => false)

theorem mix_pull {P : Program} {Cls : World → World → Prop} (hrefl : ∀ w, Cls w w) (htrans : ∀ a b c, Cls a b → Cls b c → Cls a c) {eff : List Nat} {K : Env → World → Prop} {x : Nat} {l2 : List Nat} :
    ∀ (l1 : List Nat) (e : Env) (w : World), (∀ y ∈ l1, okPair ops eff y x = true) → Mix P ops Cls eff K (l1 ++ x :: l2) e w → Mix P ops Cls eff K (x :: (l1 ++ l2)) e w
  | [], _, _, _, h => h
  | y :: l1, e, w, hp, h => by
    have hy := hp y (by simp)
    unfold okPair at hy
    simp only [Bool.and_eq_true, Bool.not_eq_true'] at hy
    obtain ⟨⟨hq, hlj⟩, hy⟩ := hy
    have h' : Mix P ops Cls eff K (y :: x :: (l1 ++ l2)) e w := mix_mono (fun e w hm => mix_pull hrefl htrans l1 e w (fun z hz => hp z (by simp [hz])) hm) y h
    cases hoy : ops[y]? with
    | none => simp [hoy] at hy
    | some oy =>
      cases hox : ops[x]? with
      | none => simp [hox, hoy] at hy
      | some ox =>
        simp only [hox, hoy, Bool.and_eq_true] at hy
        exact mix_swap hrefl htrans hq hlj hoy hox hy.1.1 hy.1.2 hy.2 h'

/-- a closed set of listed operations -/
def ClosedUp (ops : Array Oper) (listed : Array Bool) : Prop := ∀ i o, ops[i]? = some o → listed.getD i false = true → ∀ e ∈ o.after, Region.binds .any e = true → listed.getD e.on false = true

inductive Rch (ops : Array Oper) : Nat → Nat → Prop
  | one {i : Nat} {o : Oper} {e : Edge} (ho : ops[i]? = some o) (he : e ∈ o.after) (hb : Region.binds .any e = true) : Rch ops i e.on
  | step {i j : Nat} {o : Oper} {e : Edge} (ho : ops[i]? = some o) (he : e ∈ o.after) (hb : Region.binds .any e = true) (h : Rch ops e.on j) : Rch ops i j

theorem Rch.listed {i j : Nat} (h : Rch ops i j) {listed : Array Bool} (hc : ClosedUp ops listed) : ∀ o, ops[i]? = some o → (∀ e ∈ o.after, Region.binds .any e = true → listed.getD e.on false = true) → listed.getD j false = true := by
  induction h with
  | one ho he hb => intro o ho' hl; rw [ho] at ho'; cases ho'; exact hl _ he hb
  | @step i j o e ho he hb h ih =>
    intro o' ho' hl
    rw [ho] at ho'
    cases ho'
    have h1 := hl _ he hb
    cases h with
    | one ho2 he2 hb2 => exact hc _ _ ho2 h1 _ he2 hb2
    | step ho2 he2 hb2 h2 => exact ih _ ho2 (fun e3 he3 hb3 => hc _ _ ho2 h1 _ he3 hb3)

/-- the edges as a table of direct predecessors, transitively by fuel -/
def rchB (ops : Array Oper) : Nat → Nat → Nat → Bool
  | 0, _, _ => false
  | n + 1, i, j => match ops[i]? with
    | some o => o.after.any fun e => Region.binds .any e && (e.on == j || rchB ops n e.on j)
    | none => false

theorem rchB_spec : ∀ {n i j : Nat}, rchB ops n i j = true → Rch ops i j
  | 0, _, _, h => by simp [rchB] at h
  | n + 1, i, j, h => by
    unfold rchB at h
    cases ho : ops[i]? with
    | none => simp [ho] at h
    | some o =>
      simp only [ho] at h
      rw [Array.any_eq_true] at h
      obtain ⟨m, hm, h⟩ := h
      simp only [Bool.and_eq_true, Bool.or_eq_true, beq_iff_eq] at h
      obtain ⟨hb, h⟩ := h
      rcases h with h | h
      · rw [← h]; exact .one ho (Array.getElem_mem hm) hb
      · exact .step ho (Array.getElem_mem hm) hb (rchB_spec h)

/-- each pair of the order: either the earlier one stands before the later one by edges, or it may be left standing -/
def pairsOk (ops : Array Oper) (eff : List Nat) (f : Nat) : List Nat → Bool
  | [] => true
  | y :: l => l.all (fun x => okPair ops eff y x || rchB ops f x y) && pairsOk ops eff f l
def nodupB : List Nat → Bool
  | [] => true
  | x :: l => !l.contains x && nodupB l
theorem nodupB_spec : ∀ {l : List Nat}, nodupB l = true → l.Nodup
  | [], _ => List.nodup_nil
  | x :: l, h => by
    simp only [nodupB, Bool.and_eq_true, Bool.not_eq_true'] at h
    exact List.nodup_cons.2 ⟨by simpa using h.1, nodupB_spec h.2⟩
def orderOk (ops : Array Oper) (eff : List Nat) (f : Nat) (c : List Nat) : Bool :=
  pairsOk ops eff f c && c.length == ops.size && nodupB c && c.all (fun i => decide (i < ops.size)) && (List.range ops.size).all (fun i => c.contains i) &&
    (List.range ops.size).all (fun i => match ops[i]? with | some o => o.after.all (fun e => !Region.binds .any e || decide (e.on < i)) | none => true)

theorem pairsOk_spec {eff : List Nat} {f x : Nat} : ∀ {l1 l2 : List Nat}, pairsOk ops eff f (l1 ++ x :: l2) = true → ∀ y ∈ l1, okPair ops eff y x = true ∨ Rch ops x y
  | [], _, _, _, hy => by simp at hy
  | z :: l1, l2, h, y, hy => by
    simp only [List.cons_append, pairsOk, Bool.and_eq_true, List.all_eq_true, Bool.or_eq_true] at h
    rcases List.mem_cons.1 hy with rfl | hy
    · exact (h.1 x (by simp)).imp id rchB_spec
    · exact pairsOk_spec h.2 y hy
theorem pairsOk_sub {eff : List Nat} {f : Nat} : ∀ {l l' : List Nat}, List.Sublist l' l → pairsOk ops eff f l = true → pairsOk ops eff f l' = true
  | _, _, .slnil, _ => rfl
  | _, _, .cons _ hs, h => by simp only [pairsOk, Bool.and_eq_true] at h; exact pairsOk_sub hs h.2
  | _, _, .cons_cons _ hs, h => by
    simp only [pairsOk, Bool.and_eq_true, List.all_eq_true] at h ⊢
    exact ⟨fun x hx => h.1 x (hs.subset hx), pairsOk_sub hs h.2⟩

theorem getD_set {listed : Array Bool} {i j : Nat} {d : Bool} (h : i < listed.size) : (listed.setIfInBounds i true).getD j d = if i = j then true else listed.getD j d := by
  by_cases hij : i = j
  · subst hij; simp [h]
  · simp [Array.getElem?_setIfInBounds_ne hij, hij]

/-- one walk serves every order -/
theorem mix_sound {Cls : World → World → Prop} (hrefl : ∀ w, Cls w w) (htrans : ∀ a b c, Cls a b → Cls b c → Cls a c) {eff : List Nat} {f : Nat} (hops : ops.all (opOk C.n) = true)
    (hbk : ∀ (i : Nat) (o : Oper), ops[i]? = some o → ∀ ed ∈ o.after, Region.binds .any ed = true → ed.on < i) :
    ∀ (fuel t : Nat) (listed : Array Bool) (l : List Nat) (e : Env) (w : World), listed.size = ops.size → (∀ i, i < ops.size → (listed.getD i true = false ↔ i ∈ l)) → (∀ i ∈ l, i < ops.size) → l.Nodup → l.length ≤ fuel →
      ClosedUp ops listed → pairsOk ops eff f l = true → Mix C.P ops Cls eff (fun e w => Runs C k e D w) l e w →
      Runs C (.inRegion ops (Region.linearise.go .any ops fuel t listed []) :: k) e D w := by
  have done : ∀ (e : Env) (w : World), Runs C k e D w → Runs C (.inRegion ops [] :: k) e D w := fun e w h =>
    (l_nil (ops := ops) h) hops [] rfl
  have nonempty : ∀ (listed : Array Bool) (l : List Nat), listed.size = ops.size → (∀ i, i < ops.size → (listed.getD i true = false ↔ i ∈ l)) → (∀ i ∈ l, i < ops.size) → l ≠ [] → Region.ready .any ops listed ≠ [] := by
    intro listed l hsz hl hlt hne hr
    have : ∀ n i, i ≤ n → i ∈ l → False := by
      intro n
      induction n with
      | zero =>
        intro i hi hil
        obtain rfl : i = 0 := by omega
        have h0 := hlt 0 hil
        have : (0 : Nat) ∈ Region.ready .any ops listed := mem_ready.2 ⟨(hl 0 h0).2 hil, _, Array.getElem?_eq_getElem h0, fun ed hed hb => absurd (hbk 0 _ (Array.getElem?_eq_getElem h0) ed hed hb) (by omega)⟩
        rw [hr] at this
        simp at this
      | succ n ih =>
        intro i hi hil
        have h0 := hlt i hil
        have : i ∈ Region.ready .any ops listed := mem_ready.2 ⟨(hl i h0).2 hil, _, Array.getElem?_eq_getElem h0, fun ed hed hb => by
          have hlt' := hbk i _ (Array.getElem?_eq_getElem h0) ed hed hb
          have hon : ed.on < ops.size := by omega
          by_cases hm : ed.on ∈ l
          · exact (ih ed.on (by omega) hm).elim
          · have := mt (hl ed.on hon).1 hm
            have hs : ed.on < listed.size := by omega
            simp [hs] at this ⊢
            exact this⟩
        rw [hr] at this
        simp at this
    cases l with
    | nil => exact hne rfl
    | cons i l => exact this i i (Nat.le_refl _) (by simp)
  intro fuel
  induction fuel with
  | zero =>
    intro t listed l e w _ _ _ _ hf _ _ h
    have : l = [] := List.eq_nil_of_length_eq_zero (by omega)
    subst this
    simp only [Region.linearise.go, List.reverse_nil]
    exact done e w h
  | succ fuel ih =>
    intro t listed l e w hsz hl hlt hnd hf hcl hpairs h
    simp only [Region.linearise.go]
    change Runs C (.inRegion ops (match (Region.ready .any ops listed)[t % (Region.ready .any ops listed).length]? with
      | some i => Region.linearise.go .any ops fuel (t / (Region.ready .any ops listed).length) (listed.setIfInBounds i true) [i]
      | none => [].reverse) :: k) e D w
    cases hi : (Region.ready .any ops listed)[t % (Region.ready .any ops listed).length]? with
    | none =>
      have hnil : Region.ready .any ops listed = [] := by
        cases hr : Region.ready .any ops listed with
        | nil => rfl
        | cons x xs =>
          rw [hr] at hi
          have hlt : t % (x :: xs).length < (x :: xs).length := Nat.mod_lt _ (by simp)
          simp at hi
          simp at hlt
          omega
      have : l = [] := by
        cases hl' : l with
        | nil => rfl
        | cons a b => exact absurd hnil (nonempty listed l hsz hl hlt (by rw [hl']; simp))
      subst this
      exact done e w h
    | some x =>
      simp only []
      rw [linearise_go_acc, List.reverse_singleton, List.singleton_append]
      obtain ⟨hun, o, ho, hpre⟩ := mem_ready.1 (List.mem_of_getElem? hi)
      have hxs : x < ops.size := (Array.getElem?_eq_some_iff.1 ho).1
      obtain ⟨l1, l2, rfl⟩ := List.append_of_mem ((hl x hxs).1 hun)
      have hp : ∀ y ∈ l1, okPair ops eff y x = true := by
        intro y hy
        rcases pairsOk_spec hpairs y hy with h | h
        · exact h
        · have hly := h.listed hcl o ho hpre
          have hyl : y ∈ l1 ++ x :: l2 := by simp [hy]
          have hys := hlt y hyl
          have := (hl y hys).2 hyl
          have hs : y < listed.size := by omega
          simp [hs] at this hly
          rw [this] at hly
          cases hly
      have hm := mix_pull hrefl htrans l1 e w hp h
      simp only [Mix] at hm
      obtain ⟨o', ho', hm⟩ := hm
      rw [ho] at ho'
      cases ho'
      have hnx : x ∉ l1 ++ l2 := by
        have := (List.perm_middle (a := x) (l₁ := l1) (l₂ := l2)).nodup_iff.1 hnd
        exact (List.nodup_cons.1 this).1
      have next : ∀ e' w', Mix C.P ops Cls eff (fun e w => Runs C k e D w) (l1 ++ l2) e' w' →
          Runs C (.inRegion ops (Region.linearise.go .any ops fuel (t / (Region.ready .any ops listed).length) (listed.setIfInBounds x true) []) :: k) e' D w' := by
        intro e' w' h'
        refine ih _ (listed.setIfInBounds x true) (l1 ++ l2) e' w' (by simpa using hsz) ?_ ?_ ?_ ?_ ?_ ?_ h'
        · intro i hi'
          rw [getD_set (by omega)]
          by_cases hxi : x = i
          · subst hxi; simpa using hnx
          · rw [if_neg hxi, hl i hi']
            have : i ≠ x := fun h => hxi h.symm
            simp [this]
        · intro i hi'
          rcases List.mem_append.1 hi' with h | h
          · exact hlt i (by simp [h])
          · exact hlt i (by simp [h])
        · have := (List.perm_middle (a := x) (l₁ := l1) (l₂ := l2)).nodup_iff.1 hnd
          exact (List.nodup_cons.1 this).2
        · simp at hf ⊢; omega
        · intro i o2 ho2 hli ed hed hb
          have hon : ed.on < i := hbk i o2 ho2 ed hed hb
          rw [getD_set (by omega)] at hli ⊢
          by_cases hxo : x = ed.on
          · simp [hxo]
          · rw [if_neg hxo]
            by_cases hxi : x = i
            · subst hxi
              rw [ho] at ho2
              cases ho2
              exact hpre ed hed hb
            · rw [if_neg hxi] at hli
              exact hcl i o2 ho2 hli ed hed hb
        · exact pairsOk_sub (List.Sublist.append (List.Sublist.refl _) (List.sublist_cons_self _ _)) hpairs
      refine i_o hops ho ?_
      by_cases he : eff.contains x = true
      · rw [if_pos he] at hm
        exact hm.mono fun v w' hx => next _ _ hx.2
      · rw [if_neg he] at hm
        obtain ⟨v, hq, hm⟩ := hm
        exact (hq w (hrefl w)).eff (next _ _ hm)

theorem r_draw {id : Nat} {l : List Oper} {Cls : World → World → Prop} (hrefl : ∀ w, Cls w w) (htrans : ∀ a b c, Cls a b → Cls b c → Cls a c) (c eff : List Nat) (f : Nat) (hm : C.P.follows .mixedOrders = true)
    (hc : orderOk l.toArray eff f c = true) {e : Env} {w : World}
    (h : ∀ w1, w1.heap = w.heap → Ext w w1 → Mix C.P l.toArray Cls eff (fun e w => Runs C k e D w) c e w1) : Runs C (.code (.region id l.toArray true) :: k) e D w := by
  intro hk a b cs ha hD hf hr hki hcs
  have hops : l.toArray.all (opOk C.n) = true := (stackOk_cons.1 hk).1
  unfold orderOk at hc
  simp only [Bool.and_eq_true, List.all_eq_true, beq_iff_eq, List.mem_range] at hc
  obtain ⟨⟨⟨⟨⟨hp, hlen⟩, hnd⟩, hltc⟩, hall⟩, hbk⟩ := hc
  have hnd := nodupB_spec hnd
  have hltc : ∀ i ∈ c, i < l.toArray.size := fun i hi => of_decide_eq_true (hltc i hi)
  have hbk' : ∀ (i : Nat) (o : Oper), l.toArray[i]? = some o → ∀ ed ∈ o.after, Region.binds .any ed = true → ed.on < i := by
    intro i o ho ed hed hb
    have := hbk i (Array.getElem?_eq_some_iff.1 ho).1
    rw [ho] at this
    simp only [Array.all_eq_true_iff_forall_mem, Bool.or_eq_true, Bool.not_eq_true', decide_eq_true_eq] at this
    rcases this ed hed with h | h
    · rw [hb] at h; cases h
    · exact h
  have hstep := stepR_region_draw (P := C.P) (b := b) (a := a) (k := k) (cs := cs) (w := w) (ops := l.toArray) (id := id)
  have hrun := mix_sound (k := k) (D := D) hrefl htrans hops hbk' l.toArray.size (w.tape w.drawn (.order b.fn id)) (Array.replicate l.toArray.size false) c e { w with drawn := w.drawn + 1 } (by simp)
    (fun i hi => by
      have := hall i hi
      simp only [List.contains_iff_mem] at this
      have hi' : i < l.length := by simpa using hi
      simp [hi', this]) hltc hnd (by omega)
    (fun i o ho hli => by
      have hi : i < l.length := by simpa using (Array.getElem?_eq_some_iff.1 ho).1
      simp [hi] at hli) hp (h { w with drawn := w.drawn + 1 } rfl ⟨rfl, rfl, rfl, Nat.le_refl _, fun _ _ _ => rfl⟩)
  obtain ⟨v, w₂, m', hR, hst, hl⟩ := hrun (stackOk_cons.2 ⟨hops, (stackOk_cons.1 hk).2⟩) a b cs ha hD hf hr hki hcs
  refine ⟨v, w₂, m', hR, .head hstep ?_, hl⟩
  simp only [Region.schedule, hm, Bool.true_or, if_true]
  exact hst

theorem ext_refl' : ∀ w, Ext w w := Ext.refl
theorem ext_trans' : ∀ a b c, Ext a b → Ext b c → Ext a c := fun _ _ _ => Ext.trans

/-- a quiet step of the walk -/
theorem m_q {P : Program} {Cls : World → World → Prop} {eff : List Nat} {K : Env → World → Prop} {i : Nat} {o : Oper} {l : List Nat} {e : Env} {w : World} {v : Value} (ho : ops[i]? = some o) (hi : eff.contains i = false)
    (hq : ∀ w', Cls w w' → QuietAt P ops e w' o v) (h : Mix P ops Cls eff K l (updo e o.dst v) w) : Mix P ops Cls eff K (i :: l) e w := by
  simp only [Mix]
  exact ⟨o, ho, by rw [if_neg (by rw [hi]; simp)]; exact ⟨v, hq, h⟩⟩
theorem m_o {P : Program} {Cls : World → World → Prop} {eff : List Nat} {K : Env → World → Prop} {i : Nat} {o : Oper} {l : List Nat} {e : Env} {w : World} (ho : ops[i]? = some o) (hi : eff.contains i = true)
    (h : EffAt P ops e w o (fun v w' => Cls w w' ∧ Mix P ops Cls eff K l (updo e o.dst v) w')) : Mix P ops Cls eff K (i :: l) e w := by
  simp only [Mix]
  exact ⟨o, ho, by rw [if_pos hi]; exact h.mono fun v w' h => ⟨fun _ => h.1, h.2⟩⟩
/-- one that no quiet operation can come behind otherwise than here -/
theorem m_last {P : Program} {Cls : World → World → Prop} {eff : List Nat} {K : Env → World → Prop} {i : Nat} {o : Oper} {l : List Nat} {e : Env} {w : World} (ho : ops[i]? = some o) (hi : eff.contains i = true) (hl : eff.contains (i + 1000) = true)
    (h : EffAt P ops e w o (fun v w' => Mix P ops Cls eff K l (updo e o.dst v) w')) : Mix P ops Cls eff K (i :: l) e w := by
  simp only [Mix]
  exact ⟨o, ho, by rw [if_pos hi]; exact h.mono fun v w' h => ⟨(fun hx => by rw [hl] at hx; cases hx), h⟩⟩
theorem m_nil {P : Program} {Cls : World → World → Prop} {eff : List Nat} {K : Env → World → Prop} {e : Env} {w : World} (h : K e w) : Mix P ops Cls eff K [] e w := h
theorem m_part {P : Program} {Cls : World → World → Prop} {eff : List Nat} {K : Env → World → Prop} {l : List Nat} {e : Env} {w : World} (s : Nat) {b : Bool} (hb : e s = .bool b)
    (ht : b = true → Mix P ops Cls eff K l (upd e s (.bool true)) w) (hf : b = false → Mix P ops Cls eff K l (upd e s (.bool false)) w) : Mix P ops Cls eff K l e w := by
  cases b with
  | true => have := ht rfl; rwa [upd_same hb] at this
  | false => have := hf rfl; rwa [upd_same hb] at this
end
end Go.Gv
namespace Go.Gv
open Go Go.RowKit

def resOf (P : Program) (e : Env) (w : World) : List ResultVar → List Value → Prop
  | [], [] => True
  | .tmp t :: rs, v :: vs => e t = v ∧ resOf P e w rs vs
  | .cell a t :: rs, v :: vs => (∃ b o, e a = ptr b o ∧ (loadVar t ⟨b, o, none⟩).run P w = .ok v w) ∧ resOf P e w rs vs
  | _, _ => False
def pack : List Value → Value
  | [v] => v
  | vs => .tuple ⟨vs⟩

def resF (tmps : Array Value) (x : ResultVar) : Sem Value := match x with
  | .tmp t => pure (tmps.getD t undef)
  | .cell a t => do loadVar t (← asAddr (tmps.getD a undef))
theorem results_eq (fn : Func) (tmps : Array Value) : results fn tmps = (do let vs ← fn.results.mapM (resF tmps); pure (if h : vs.size = 1 then vs[0] else .tuple vs)) := by
  have h : results fn tmps = (do let vs ← fn.results.mapM (fun x => match x with
    | .tmp t => pure (tmps.getD t undef)
    | .cell a t => do loadVar t (← asAddr (tmps.getD a undef))); pure (if h : vs.size = 1 then vs[0] else .tuple vs)) := rfl
  rw [h]
  rfl

theorem run_results_list {P : Program} {e : Env} {w : World} {tmps : Array Value} (ht : ∀ t, tmps.getD t undef = e t) : ∀ (rs : List ResultVar) (vs : List Value), resOf P e w rs vs →
    (rs.mapM (resF tmps)).run P w = .ok vs w
  | [], [], _ => by simp
  | .tmp t :: rs, v :: vs, h => by
    have ih := run_results_list ht rs vs h.2
    have h1 : (resF tmps (.tmp t)).run P w = .ok v w := by simp only [resF, Sem.run_pure]; rw [ht t, h.1]
    simp only [List.mapM_cons, Sem.run_bind, h1, Result.andThen_ok, ih, Sem.run_pure]
  | .cell a t :: rs, v :: vs, h => by
    have ih := run_results_list ht rs vs h.2
    obtain ⟨⟨b, o, h1, h2⟩, _⟩ := h
    have h3 : tmps.getD a undef = ptr b o := by rw [ht a, h1]
    have h4 : (resF tmps (.cell a t)).run P w = .ok v w := by simp only [resF, h3, asAddr, Sem.run_bind, Sem.run_pure, Result.andThen_ok, h2]
    simp only [List.mapM_cons, Sem.run_bind, h4, Sem.run_pure, Result.andThen_ok, ih]
  | [], _ :: _, h => h.elim
  | .tmp _ :: _, [], h => h.elim
  | .cell _ _ :: _, [], h => h.elim

theorem run_results {P : Program} {e : Env} {w : World} {fn : Func} {rs : List ResultVar} {vs : List Value} (hres : fn.results = rs.toArray) (h : resOf P e w rs vs) (tmps : Array Value) (ht : ∀ t, tmps.getD t undef = e t) :
    (results fn tmps).run P w = .ok (pack vs) w := by
  have hl := run_results_list ht rs vs h
  rw [results_eq, hres]
  simp only [List.mapM_toArray, Sem.run_bind, Sem.run_map, hl, Result.andThen_ok, Sem.run_pure]
  congr 1
  match vs with
  | [] => rfl
  | [v] => rfl
  | _ :: _ :: _ => rfl

theorem run_loadVar1 {P : Program} {w : World} {t : TypeId} {b o : Nat} {v : Value} (hag : ∀ w, (isAgg t).run P w = .ok false w) (hc : Has w b o v) : (loadVar t ⟨b, o, none⟩).run P w = .ok v w := by
  have hc' : w.cell? ⟨b, o, none⟩ = some v := hc
  simp [loadVar, hag, hc']
theorem run_loadVarA {P : Program} {w : World} {t : TypeId} {b o n : Nat} {cs : List Value} (hag : ∀ w, (isAgg t).run P w = .ok true w) (hsz : ∀ w, (sizeOf t).run P w = .ok n w) (hc : Cells w b o cs) (hn : cs.length = n) : (loadVar t ⟨b, o, none⟩).run P w = .ok (.agg ⟨cs⟩) w := by
  subst hn
  have hl := run_loadCells_list (P := P) w ⟨b, o, none⟩ cs (fun j v hj => by rw [Addr.add_lit]; exact hc j v hj)
  simp [loadVar, hag, hsz, hl]

section
variable {C : Ctx} {k : List Item} {e : Env} {D : List Deferred} {w w' : World}

/-- 'return' -/
theorem r_ret_ {fn : Func} {rs : List ResultVar} {vs : List Value} (hr : C.r = none) (hf : C.P.funcs[C.f]? = some fn) (hres : fn.results = rs.toArray) (hu : Unw w D w') (h : resOf C.P e w' rs vs) (hR : C.R (pack vs) w') : Runs C (.code .ret :: k) e D w :=
  r_ret hr hf hu (fun tmps ht => run_results hres h tmps ht) hR
/-- the end of a function's text -/
theorem r_end_ {fn : Func} {rs : List ResultVar} {vs : List Value} (hr : C.r = none) (hf : C.P.funcs[C.f]? = some fn) (hres : fn.results = rs.toArray) (hu : Unw w D w') (h : resOf C.P e w' rs vs) (hR : C.R (pack vs) w') : Runs C [] e D w :=
  r_end hr hf hu (fun tmps ht => run_results hres h tmps ht) hR

theorem knows_env {l : List (Nat × Value)} (h : Knows e l) : ∃ e0, e = L l e0 := ⟨e, (L_same h).symm⟩
end

theorem vint_eq {a b : Int} (h : a = b) : vint a = vint b := by rw [h]
theorem vbool_eq {a b : Bool} (h : a = b) : Value.bool a = Value.bool b := by rw [h]
theorem vstr_eq {a b : List UInt8} (h : a = b) : vstr a = vstr b := by rw [h]

end Go.Gv
namespace Go.Gv
open Go Go.RowKit

abbrev vbyte (b : UInt8) : Value := .int .u8 b.toNat

theorem getD_some {α : Type} {l : List α} {i : Nat} {d : α} (h : i < l.length) : l[i]? = some (l.getD i d) := by
  rw [List.getElem?_eq_getElem h, List.getD_eq_getElem?_getD, List.getElem?_eq_getElem h]; rfl

theorem all_one_map {α : Type} (f : α → Value) (l : List α) (h : ∀ x, (f x).oneCell' = true) : (l.map f).all Value.oneCell' = true := by
  rw [List.all_eq_true]
  intro x hx
  obtain ⟨y, _, rfl⟩ := List.mem_map.1 hx
  exact h y

theorem row_slice {α : Type} {f : α → Value} {xs : List α} {w : World} {a : Option Addr} {n c lo hi : Nat} (h : Row w a n c 1 (((xs.map f).take (hi * 1)).drop (lo * 1))) : Row w a n c 1 (((xs.take hi).drop lo).map f) := by
  simp only [Nat.mul_one] at h
  rw [List.map_drop, List.map_take]
  exact h

theorem own_ext {w w' : World} {base e size n : Nat} {v : Value} {xs : List Value} (h : w.ownsRow base e size v n xs) (hg : Ext w w') : w'.ownsRow base e size v n xs := by
  refine h.kept hg ?_
  cases v.ownBlock with
  | none => exact .inl rfl
  | some b => exact .inr (by simp)

theorem below_own {B base e size n : Nat} {w0 w w' : World} {v : Value} {xs : List Value} (hB : Below B w0 w) (hG : w.grownBy w' v.ownBlock) (hown : w.ownsRow base e size v n xs) (hb : B ≤ base) (hsz : B ≤ w.heap.size) : Below B w0 w' :=
  hB.grown hG hsz (fun k hk => by have := hown.lt k hk; omega)

theorem own_ne {base e size n b : Nat} {w : World} {v : Value} {xs : List Value} (hown : w.ownsRow base e size v n xs) (hb : b < base) : some b ≠ v.ownBlock := fun h => by
  have := hown.lt b h.symm; omega

theorem own_mono {base base' e size n : Nat} {w : World} {v : Value} {xs : List Value} (h : w.ownsRow base e size v n xs) (hb : base' ≤ base) : w.ownsRow base' e size v n xs := by
  obtain ⟨h1, h2⟩ := h
  refine ⟨h1, h2.imp id ?_⟩
  rintro ⟨g, cap, cur, h3, h4, h5⟩
  exact ⟨g, cap, cur, h3, Nat.le_trans hb h4, h5⟩

theorem made_one (z : Value) (n : Nat) (hz : z.cells = #[z]) : (madeCells z.cells (n * 1)).toList = List.replicate n z := by
  rw [hz, Nat.mul_one]; exact toList_madeCells_one z n

theorem Blk.cells0 {w : World} {b : Nat} {cs : List Value} (h : Blk w b cs) : Cells w b 0 cs := fun j v hj => by
  rw [Nat.zero_add]; exact h.has hj

section
variable {P : Program} {ops : Array Oper} {e : Env} {w : World}
variable {d : Option Nat} {ty : TypeId} {pos : String} {af : Array Edge} {g : Option (Nat × Bool)}

theorem q_indexAddr_arr1 {t el : TypeId} {x y : Operand} {n b o : Nat} {kd : IntKind} {i : Int} (ht : P.underlying t = some (.array n el)) (hsz : ∀ w, (sizeOf el).run P w = .ok 1 w)
    (hx : ev e x = ptr b o) (hy : ev e y = .int kd i) (hr : 0 ≤ i ∧ i < n) (hw : wantedE ops e ⟨d, .indexAddr t x y, ty, pos, af, g⟩ = true) : QuietAt P ops e w ⟨d, .indexAddr t x y, ty, pos, af, g⟩ (ptr b (o + i.toNat)) := by
  have := q_indexAddr_arr (w := w) ht hsz hx hy hr hw
  rwa [Nat.mul_one] at this

/-- a store into one cell of a block, its number a variable -/
theorem o_store1 {K : Value → World → Prop} {t : TypeId} {x y : Operand} {b o : Nat} {v : Value} {cs : List Value} (hsz : ∀ w, (sizeOf t).run P w = .ok 1 w) (hx : ev e x = ptr b o) (hy : ev e y = v) (hv : v.cells = ⟨[v]⟩) (h1 : v.oneCell' = true)
    (hb : Blk w b cs) (hf : o < cs.length) (hw : wantedE ops e ⟨d, .store t x y, ty, pos, af, g⟩ = true)
    (h : ∀ w', w'.heap.size = w.heap.size → Blk w' b (cs.set o v) → w.grownBy w' (some b) → K undef w') : EffAt P ops e w ⟨d, .store t x y, ty, pos, af, g⟩ K :=
  o_store (vs := [v]) (cs' := cs.set o v) hsz hx hy hv (by simp [h1]) hb (by simp; omega) (by
    rw [List.set_eq_take_append_cons_drop, if_pos hf]; simp) hw h

/-- a store over a whole block -/
theorem o_store_all {K : Value → World → Prop} {t : TypeId} {x y : Operand} {b n : Nat} {cs cs' : List Value} (hsz : ∀ w, (sizeOf t).run P w = .ok n w) (hx : ev e x = ptr b 0) (hy : ev e y = .agg ⟨cs'⟩)
    (hb : Blk w b cs) (hl : cs.length = n) (hl' : cs'.length = n) (h1 : cs'.all Value.oneCell' = true) (hw : wantedE ops e ⟨d, .store t x y, ty, pos, af, g⟩ = true)
    (h : ∀ w', w'.heap.size = w.heap.size → Blk w' b cs' → w.grownBy w' (some b) → K undef w') : EffAt P ops e w ⟨d, .store t x y, ty, pos, af, g⟩ K :=
  o_store (vs := cs') (cs' := cs') (by rw [hl']; exact hsz) hx hy rfl h1 hb (by omega) (by simp [hl, hl']) hw h

/-- a function without a body, that hands back a value at once -/
theorem q_extern {f : FuncId} {as : Array Operand} {at_ : Array TypeId} {args : List Value} {v : Value} (hin : ∀ w, (callFunc f args.toArray).run P w = .ok (.value v) w) (ha : as.toList.map (ev e) = args)
    (hw : wantedE ops e ⟨d, .call ⟨.value (.func f), as, at_⟩, ty, pos, af, g⟩ = true) : QuietAt P ops e w ⟨d, .call ⟨.value (.func f), as, at_⟩, ty, pos, af, g⟩ v :=
  .inl ⟨hw, rfl, by
    have h1 : (Array.map (ev e) as) = args.toArray := by rw [map_list, ha]
    have h2 : (#[] : Array Value) ++ args.toArray = args.toArray := Array.empty_append
    have h3 : args.toArray ++ (#[] : Array Value) = args.toArray := Array.append_empty
    simp only [execOp, resolve, ev, Deferred.ofValue, invoke, h1, hin, Sem.run_bind, Sem.run_pure, Result.andThen_ok, h2, h3]⟩

/-- []byte(s) -/
theorem o_toBytesB {K : Value → World → Prop} {s t el : TypeId} {x : Operand} {l : List UInt8} (hs : P.underlying s = some .string) (ht : P.underlying t = some (.slice el)) (he : P.underlying el = some (.int .u8)) (hx : ev e x = vstr l)
    (hw : wantedE ops e ⟨d, .convert s t x, ty, pos, af, g⟩ = true)
    (h : ∀ b c w', w.heap.size ≤ b → b < w'.heap.size → Row w' (some ⟨b, 0, none⟩) l.length c 1 (l.map vbyte) → Ext w w' → K (.slice (some ⟨b, 0, none⟩) l.length c) w') : EffAt P ops e w ⟨d, .convert s t x, ty, pos, af, g⟩ K := by
  have hsz : (⟨⟨l⟩⟩ : ByteArray).size = l.length := rfl
  let cap := (Question.appendCap l.length 0 el).cut (w.tape w.drawn (.appendCap l.length 0 el))
  have hcap : l.length ≤ cap := grownCap_ge w l.length 0 el
  let cells : Array Value := (l.map vbyte).toArray ++ Array.replicate (cap - l.length) (.int .u8 0)
  let w1 : World := (w.drew.alloc (.cells cells el)).freeze ⟨w.heap.size, cells.size, none⟩ 1
  have hheap : w1.heap[w.heap.size]? = some (.cells cells el (cells.size, cells.size + 1)) := by
    simp only [w1, World.freeze, if_neg (by decide : ¬ (1 = 0)), Array.getElem?_modify, if_pos rfl]
    have := heap_alloc_new w.drew (.cells cells el)
    rw [show w.drew.heap.size = w.heap.size from rfl] at this
    rw [this]
    simp
  have hold : ∀ k, k < w.heap.size → w1.heap[k]? = w.heap[k]? := by
    intro k hk
    simp only [w1, World.freeze, if_neg (by decide : ¬ (1 = 0)), Array.getElem?_modify]
    rw [if_neg (by omega)]
    exact Below.heap_alloc w.drew _ k hk
  have hrun : (execOp (ev e) ⟨d, .convert s t x, ty, pos, af, g⟩).run P w = .ok (.value (.slice (some ⟨w.heap.size, 0, none⟩) l.length cap)) w1 := by
    have hc1 : (List.toArray l).map (fun b : UInt8 => Value.int .u8 b.toNat) = (l.map vbyte).toArray := by simp
    have hsh : (w.drew.alloc (.cells cells el)).shape? w.heap.size = some (el, cells.size) := by
      have := heap_alloc_new w.drew (.cells cells el)
      rw [show w.drew.heap.size = w.heap.size from rfl] at this
      unfold World.shape?
      rw [this]
    have hrow : ∀ W : World, W = w.drew → (newRow el cells).run P W = .ok ⟨w.heap.size, 0, none⟩ (w.drew.alloc (.cells cells el)) := by
      intro W hW; subst hW; simp [newRow]
    have hmark : (markStringish ⟨w.heap.size, 0, none⟩).run P (w.drew.alloc (.cells cells el)) = .ok () w1 := by
      simp [markStringish, shape, freeze, Sem.run, hsh, bind, Sem.bind, w1]
    have hch : (choose (.appendCap l.length 0 el)).run P w = .ok cap w.drew := by
      simp [choose, Sem.run, Question.forced, cap]
    simp only [execOp, hx, convert, Sem.run_bind, run_underlying hs, run_underlying ht, run_underlying he, Result.andThen_ok, Conv.stringToBytes, hsz, hch, hc1]
    rw [show (List.map vbyte l).toArray ++ Array.replicate (cap - l.length) (Value.int IntKind.u8 0) = cells from rfl, hrow _ rfl]
    simp only [Result.andThen_ok, hmark, Sem.run_pure, Sem.run_bind]
  refine e_value hw rfl hrun (h _ _ w1 (Nat.le_refl _) (by simp [w1, World.freeze]) ⟨by simp, hcap, .inr ⟨w.heap.size, 0, rfl, fun j v hj => ?_⟩⟩ ⟨rfl, rfl, rfl, ?_, fun k hk _ => hold k hk⟩)
  · have hj' : cells[0 + j]? = some v := by
      rw [Nat.zero_add]
      simp only [cells]
      rw [Array.getElem?_append_left (by have := (List.getElem?_eq_some_iff.1 hj).1; simpa using this)]
      simpa using hj
    simp only [Has, World.cell?, hheap]
    simpa using hj'
  · simp [w1, World.freeze]
end

/-- raw elements of one cell -/
theorem Row.at1r {cs : List Value} {w : World} {a : Option Addr} {n c : Nat} (h : Row w a n c 1 cs) (i : Nat) (v : Value) (hv : cs[i]? = some v) : ∃ b o, a = some ⟨b, o, none⟩ ∧ Has w b (o + i) v := by
  rcases h.2.2 with h0 | ⟨b, o, ha, hc⟩
  · subst h0; simp at hv
  · exact ⟨b, o, ha, hc i _ hv⟩

/-- a function value that answers p of each element, by its number, in every world from w0 on -/
def PredI (P : Program) (w0 : World) (g : FuncId) (fst cap cs : List Value) (p : Nat → Bool) : Prop :=
  (∀ args w, (callFunc g args).run P w = .ok (.enter g args) w) ∧ ∀ w, Ext w0 w → ∀ i v, cs[i]? = some v → Ret P g (fst ++ [v] ++ cap) w (fun r w' => r = .bool (p i) ∧ Ext w w')
theorem PredI.ext {P : Program} {w0 w1 : World} {g : FuncId} {fst cap cs : List Value} {p : Nat → Bool} (h : PredI P w0 g fst cap cs p) (he : Ext w0 w1) : PredI P w1 g fst cap cs p :=
  ⟨h.1, fun w hw => h.2 w (he.trans hw)⟩

theorem predI_of {α : Type} {P : Program} {w0 : World} {g : FuncId} {fst cap : List Value} {f : α → Value} {xs : List α} (d : α) {q : α → Bool} (hin : ∀ args w, (callFunc g args).run P w = .ok (.enter g args) w)
    (h : ∀ w, Ext w0 w → ∀ x ∈ xs, Ret P g (fst ++ [f x] ++ cap) w (fun r w' => r = .bool (q x) ∧ Ext w w')) : PredI P w0 g fst cap (xs.map f) (fun i => q (xs.getD i d)) := by
  refine ⟨hin, fun w hw i v hv => ?_⟩
  rw [List.getElem?_map] at hv
  cases hx : xs[i]? with
  | none => simp [hx] at hv
  | some x =>
    simp [hx] at hv
    subst hv
    have : xs.getD i d = x := by rw [List.getD_eq_getElem?_getD, hx]; rfl
    show Ret P g (fst ++ [f x] ++ cap) w fun r w' => r = Value.bool (q (xs.getD i d)) ∧ Ext w w'
    rw [this]
    exact h w hw x (List.mem_of_getElem? hx)

/-- a slice of ints, as it lies in another slice -/
structure SV where
  a : Option Addr
  c : Nat
  xs : List Int
abbrev SV.enc (s : SV) : Value := .slice s.a s.xs.length s.c
abbrev sv0 : SV := ⟨none, 0, []⟩
def RowsI (w : World) (l : List SV) : Prop := ∀ s ∈ l, Row w s.a s.xs.length s.c 1 (s.xs.map vint)
theorem RowsI.ext {w w' : World} {l : List SV} (h : RowsI w l) (hg : Ext w w') : RowsI w' l := fun s hs => (h s hs).ext hg
theorem RowsI.below {w w' : World} {l : List SV} (h : RowsI w l) (hg : Below w.heap.size w w') : RowsI w' l := fun s hs => (h s hs).below hg
theorem RowsI.get {w : World} {l : List SV} (h : RowsI w l) {i : Nat} (hi : i < l.length) : Row w (l.getD i sv0).a (l.getD i sv0).xs.length (l.getD i sv0).c 1 ((l.getD i sv0).xs.map vint) :=
  h _ (by rw [List.getD_eq_getElem?_getD, List.getElem?_eq_getElem hi]; exact List.getElem_mem hi)

theorem RowsI.sub {w : World} {l l' : List SV} (h : RowsI w l) (hs : ∀ s ∈ l', s ∈ l) : RowsI w l' := fun s hs' => h s (hs s hs')
theorem RowsI.take {w : World} {l : List SV} (h : RowsI w l) (n : Nat) : RowsI w (l.take n) := h.sub fun _ hs => List.mem_of_mem_take hs
theorem RowsI.drop {w : World} {l : List SV} (h : RowsI w l) (n : Nat) : RowsI w (l.drop n) := h.sub fun _ hs => List.mem_of_mem_drop hs
theorem RowsI.snoc {w : World} {l : List SV} {s : SV} (h : RowsI w l) (hs : Row w s.a s.xs.length s.c 1 (s.xs.map vint)) : RowsI w (l ++ [s]) := fun x hx => by
  rcases List.mem_append.1 hx with h1 | h1
  · exact h x h1
  · have : x = s := by simpa using h1
    subst this; exact hs
theorem RowsI.nil (w : World) : RowsI w [] := fun _ h => by simp at h

def idxI (p : Nat → Bool) (n : Nat) : Int := match (List.range n).find? p with | some i => i | none => -1
theorem idxI_found {p : Nat → Bool} {n k : Nat} (hk : k < n) (hp : p k = true) (hno : ∀ i, i < k → p i = false) : idxI p n = k := by
  unfold idxI
  have : (List.range n).find? p = some k := by
    rw [List.find?_range_eq_some]
    exact ⟨hp, by simpa using hk, fun j hj => by simp [hno j hj]⟩
  rw [this]
theorem idxI_none {p : Nat → Bool} {n : Nat} (hno : ∀ i, i < n → p i = false) : idxI p n = -1 := by
  unfold idxI
  have : (List.range n).find? p = none := by
    rw [List.find?_eq_none]
    intro i hi
    simp [hno i (List.mem_range.1 hi)]
  rw [this]
theorem idxI_nonneg (p : Nat → Bool) (n : Nat) : decide (0 ≤ idxI p n) = (List.range n).any p := by
  unfold idxI
  cases h : (List.range n).find? p with
  | none =>
    rw [List.find?_eq_none] at h
    have : (List.range n).any p = false := by rw [List.any_eq_false]; exact fun x hx => by simpa using h x hx
    rw [this]; simp
  | some i =>
    have h1 := List.find?_some h
    have h2 := List.mem_of_find?_eq_some h
    have : (List.range n).any p = true := List.any_eq_true.2 ⟨i, h2, h1⟩
    rw [this]; simp
theorem range_any {α : Type} (xs : List α) (d : α) (q : α → Bool) : (List.range xs.length).any (fun i => q (xs.getD i d)) = xs.any q := by
  rw [Bool.eq_iff_iff, List.any_eq_true, List.any_eq_true]
  constructor
  · rintro ⟨i, hi, hq⟩
    have hi := List.mem_range.1 hi
    exact ⟨_, List.getElem_mem hi, by simpa [List.getD_eq_getElem?_getD, List.getElem?_eq_getElem hi] using hq⟩
  · rintro ⟨x, hx, hq⟩
    obtain ⟨i, hi, rfl⟩ := List.mem_iff_getElem.1 hx
    exact ⟨i, List.mem_range.2 hi, by simpa [List.getD_eq_getElem?_getD, List.getElem?_eq_getElem hi] using hq⟩
theorem range_all {α : Type} (xs : List α) (d : α) (q : α → Bool) : (List.range xs.length).all (fun i => q (xs.getD i d)) = xs.all q := by
  have := range_any xs d (fun x => !q x)
  rw [List.all_eq_not_any_not, List.all_eq_not_any_not, this]
theorem dt {p : Prop} [Decidable p] (h : decide p = true) : p := of_decide_eq_true h
theorem df {p : Prop} [Decidable p] (h : decide p = false) : ¬ p := of_decide_eq_false h
theorem dlt {a b : Int} (h : decide (a < b) = false) : b ≤ a := Int.not_lt.1 (of_decide_eq_false h)
theorem dle {a b : Int} (h : decide (a ≤ b) = false) : b < a := Int.not_le.1 (of_decide_eq_false h)
theorem nt {b : Bool} (h : (!b) = true) : b = false := by cases b <;> simp_all
theorem nf {b : Bool} (h : (!b) = false) : b = true := by cases b <;> simp_all
theorem b2t {a b c d : Int} (h : (decide (a ≤ b) && decide (c ≤ d)) = true) : a ≤ b ∧ c ≤ d := by simpa using h
theorem b2f {a b c d : Int} (h : (decide (a ≤ b) && decide (c ≤ d)) = false) : b < a ∨ d < c := by
  rw [Bool.and_eq_false_iff, decide_eq_false_iff_not, decide_eq_false_iff_not] at h; omega
end Go.Gv
namespace Go.Gv
open Go Go.RowKit

theorem QuietAt.cast {P : Program} {ops : Array Oper} {e : Env} {w : World} {o : Oper} {v v' : Value} (h : QuietAt P ops e w o v) (hv : v = v') : QuietAt P ops e w o v' := hv ▸ h

theorem slice_ex {α : Type} {f : α → Value} {xs : List α} {w : World} {a : Option Addr} {n c : Nat} (lo hi : Int) (h : Row w a n c 1 (xs.map f)) (h1 : 0 ≤ lo ∧ lo ≤ hi ∧ hi ≤ n) :
    ∃ a' c', Row w a' (((xs.take hi.toNat).drop lo.toNat)).length c' 1 (((xs.take hi.toNat).drop lo.toNat).map f) ∧
      Value.slice (if c = lo.toNat then a else a.map (·.add (lo.toNat * 1))) (hi.toNat - lo.toNat) (c - lo.toNat) = .slice a' (((xs.take hi.toNat).drop lo.toNat)).length c' := by
  have hn : xs.length = n := by have := h.1; simpa using this
  have hr := row_slice (h.slice (lo := lo.toNat) (hi := hi.toNat) (by omega) (by omega))
  have hl : ((xs.take hi.toNat).drop lo.toNat).length = hi.toNat - lo.toNat := by rw [List.length_drop, List.length_take]; omega
  exact ⟨_, _, by rw [hl]; exact hr, by rw [hl]⟩
theorem slice_ex_hi {α : Type} {f : α → Value} {xs : List α} {w : World} {a : Option Addr} {n c : Nat} (hi : Int) (h : Row w a n c 1 (xs.map f)) (h1 : 0 ≤ hi ∧ hi ≤ n) :
    ∃ a' c', Row w a' (xs.take hi.toNat).length c' 1 ((xs.take hi.toNat).map f) ∧
      Value.slice (if c = (0 : Int).toNat then a else a.map (·.add ((0 : Int).toNat * 1))) (hi.toNat - (0 : Int).toNat) (c - (0 : Int).toNat) = .slice a' (xs.take hi.toNat).length c' := by
  have := slice_ex (f := f) 0 hi h (by omega)
  simpa only [Int.toNat_zero, List.drop_zero] using this
section
variable {P : Program} {ops : Array Oper} {e : Env} {w : World}
variable {d : Option Nat} {ty : TypeId} {pos : String} {af : Array Edge} {g : Option (Nat × Bool)}
theorem o_append_map {α : Type} {f : α → Value} (xs ys : List α) {K : Value → World → Prop} {t el : TypeId} {at_ : Array TypeId} {x y : Operand} {z : Value} {bytes base : Nat} {a a2 : Option Addr} {c c2 : Nat} (ht : P.underlying t = some (.slice el)) (he : Elem P el z 1 bytes) (hat : at_ = #[t, t])
    (hx : ev e x = .slice a xs.length c) (hown : w.ownsRow base el 1 (.slice a xs.length c) xs.length (xs.map f)) (hy : ev e y = .slice a2 ys.length c2) (hrow : Row w a2 ys.length c2 1 (ys.map f)) (h1 : ∀ x, (f x).oneCell' = true)
    (hbytes : xs.length + ys.length ≤ 140737488355328 ∧ (xs.length + ys.length) * bytes ≤ 140737488355328) (hbase : base ≤ w.heap.size)
    (hw : wantedE ops e ⟨d, .call ⟨.builtin .append, #[x, y], at_⟩, ty, pos, af, g⟩ = true)
    (h : ∀ a' c' w', w.heap.size ≤ w'.heap.size → w'.ownsRow base el 1 (.slice a' (xs ++ ys).length c') (xs ++ ys).length ((xs ++ ys).map f) → w.grownBy w' (Value.ownBlock (.slice a xs.length c)) →
      K (.slice a' (xs ++ ys).length c') w') : EffAt P ops e w ⟨d, .call ⟨.builtin .append, #[x, y], at_⟩, ty, pos, af, g⟩ K :=
  o_append ht he hat hx hown hy hrow (all_one_map _ _ h1) (by unfold maxLen; omega) hbytes.2 hbase hw (fun a' c' w' hz ho hG => by
    have := h a' c' w' hz (by rw [List.length_append, List.map_append]; exact ho) hG
    rwa [List.length_append] at this)
end
/-- rows of elements of another type are not touched by what is appended -/
theorem own_other {base base' e e' size size' n n' : Nat} {w : World} {v v' : Value} {xs xs' : List Value} (h : w.ownsRow base e size v n xs) (h' : w.ownsRow base' e' size' v' n' xs') (hne : e ≠ e') : v.ownBlock = none ∨ v.ownBlock ≠ v'.ownBlock := by
  rcases h.2 with ⟨rfl, _⟩ | ⟨g, cap, cur, rfl, _, hg, _⟩
  · exact .inl rfl
  · right
    rcases h'.2 with ⟨rfl, _⟩ | ⟨g', cap', cur', rfl, _, hg', _⟩
    · simp [Value.ownBlock]
    · intro hx
      obtain rfl : g = g' := by simpa [Value.ownBlock] using hx
      have := hg.symm.trans hg'
      simp at this
      exact hne this.2
theorem own_kept {base base' e e' size size' n n' : Nat} {w w' : World} {v v' : Value} {xs xs' : List Value} (h : w.ownsRow base e size v n xs) (h' : w.ownsRow base' e' size' v' n' xs') (hne : e ≠ e') (hG : w.grownBy w' v'.ownBlock) : w'.ownsRow base e size v n xs :=
  h.kept hG (own_other h h' hne)
def OwnsI (w : World) (B el : Nat) (l : List SV) : Prop := ∀ s ∈ l, w.ownsRow B el 1 s.enc s.xs.length (s.xs.map vint)
theorem OwnsI.ext {w w' : World} {B el : Nat} {l : List SV} (h : OwnsI w B el l) (hg : Ext w w') : OwnsI w' B el l := fun s hs => own_ext (h s hs) hg
theorem OwnsI.rows {w : World} {B el : Nat} {l : List SV} (h : OwnsI w B el l) : RowsI w l := fun s hs => Row.of_owns (h s hs)
theorem OwnsI.mono {w : World} {B B' el : Nat} {l : List SV} (h : OwnsI w B el l) (hb : B' ≤ B) : OwnsI w B' el l := fun s hs => own_mono (h s hs) hb
theorem OwnsI.nil (w : World) (B el : Nat) : OwnsI w B el [] := fun _ h => by simp at h
theorem OwnsI.snoc {w : World} {B el : Nat} {l : List SV} {s : SV} (h : OwnsI w B el l) (hs : w.ownsRow B el 1 s.enc s.xs.length (s.xs.map vint)) : OwnsI w B el (l ++ [s]) := fun x hx => by
  rcases List.mem_append.1 hx with h1 | h1
  · exact h x h1
  · have : x = s := by simpa using h1
    subst this; exact hs
theorem OwnsI.kept {w w' : World} {B el base' e' size' n' : Nat} {l : List SV} {v' : Value} {xs' : List Value} (h : OwnsI w B el l) (h' : w.ownsRow base' e' size' v' n' xs') (hne : el ≠ e') (hG : w.grownBy w' v'.ownBlock) : OwnsI w' B el l :=
  fun s hs => own_kept (h s hs) h' hne hG
theorem pureExt {P : Program} {g : FuncId} {args : List Value} {w : World} {x : Value} (h : Ret P g args w (fun v w' => v = x ∧ w = w')) : Ret P g args w (fun v w' => v = x ∧ Ext w w') := h.mono (fun _ _ h => ⟨h.1, h.2 ▸ Ext.refl _⟩)
theorem ext_getD {α : Type} {d : α} {xs ys : List α} (hl : xs.length = ys.length) (h : ∀ j, j < xs.length → xs.getD j d = ys.getD j d) : xs = ys := by
  apply List.ext_getElem hl
  intro i h1 h2
  have := h i h1
  rwa [List.getD_eq_getElem?_getD, List.getD_eq_getElem?_getD, List.getElem?_eq_getElem h1, List.getElem?_eq_getElem h2] at this
end Go.Gv
