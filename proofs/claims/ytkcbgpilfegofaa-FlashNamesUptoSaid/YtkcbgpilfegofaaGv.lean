/- A program logic over the given machine: a todo stack, frames as functions. Generic in the program. Conditions: none. -/
import Derived.AtR
import Derived.Below
import Derived.CallsIn
set_option linter.unusedVariables false
set_option linter.unusedSimpArgs false
namespace Go.Gv
open Go Go.RowKit

abbrev Env := Nat → Value
def upd (e : Env) (d : Nat) (v : Value) : Env := fun t => cond (Nat.beq t d) v (e t)
def updo (e : Env) (d : Option Nat) (v : Value) : Env := match d with | some d => upd e d v | none => e
def ev (e : Env) : Operand → Value
  | .tmp t => e t
  | .const v => v
  | .global g => .pointer (some ⟨g, 0, none⟩)
  | .func f => .func (.func f) #[] #[]

structure Ctx where
  P : Program
  f : FuncId
  r : Option Nat
  n : Nat
  R : Value → World → Prop

def opOk (n : Nat) (o : Oper) : Bool := match o.dst with | some d => decide (d < n) | none => true
def codeOk (n : Nat) : Code → Bool
  | .region _ ops _ => ops.all (opOk n)
  | .seq a b => codeOk n a && codeOk n b
  | .cond _ a b => codeOk n a && codeOk n b
  | .block _ b => codeOk n b
  | .loop b => codeOk n b
  | .scope b => codeOk n b
  | .rangeFunc _ ps a b => ps.all (fun p => decide (p < n)) && codeOk n a && codeOk n b
  | _ => true
def itemOk (n : Nat) : Item → Bool
  | .code c => codeOk n c
  | .inRegion ops _ => ops.all (opOk n)
  | .inLoop c => codeOk n c
  | .inScope c => codeOk n c
  | _ => true
def stackOk (n : Nat) (k : List Item) : Bool := k.all (itemOk n)

theorem stackOk_cons {n : Nat} {x : Item} {k : List Item} : stackOk n (x :: k) = true ↔ itemOk n x = true ∧ stackOk n k = true := by
  simp [stackOk]

def Rep (n : Nat) (a : Act) (e : Env) : Prop := a.tmps.size = n ∧ ∀ t, a.tmps.getD t undef = e t

theorem Rep.eval {n : Nat} {a : Act} {e : Env} (h : Rep n a e) : a.eval = ev e := by
  funext x
  cases x with
  | tmp t => exact h.2 t
  | const v => rfl
  | global g => rfl
  | func f => rfl

theorem Rep.put {n : Nat} {a : Act} {e : Env} (h : Rep n a e) (d : Option Nat) (v : Value) (hd : ∀ t, d = some t → t < n) : Rep n (a.put d v) (updo e d v) := by
  cases d with
  | none => exact h
  | some d =>
    have hd := hd d rfl
    refine ⟨by simp [Act.put, h.1], fun t => ?_⟩
    have h2 := h.2 t
    simp only [Act.put, updo, upd, Array.getD_eq_getD_getElem?, Array.getElem?_setIfInBounds] at h2 ⊢
    by_cases ht : t = d
    · subst ht
      simp [h.1, hd]
    · rw [if_neg (fun h => ht h.symm), show Nat.beq t d = false from by rw [← Bool.not_eq_true]; intro h; exact ht (Nat.eq_of_beq_eq_true h)]
      exact h2

theorem Rep.yielded {n : Nat} {a : Act} {e : Env} (h : Rep n a e) (ops : Array Oper) (j : Nat) :
    yielded ops a.tmps j = match (ops[j]?).bind (·.dst) with
      | some d => (match e d with | .bool b => some b | _ => none)
      | none => none := by
  unfold Go.yielded
  cases (ops[j]?).bind (·.dst) with
  | none => rfl
  | some d =>
    have h2 := h.2 d
    simp only [Array.getD_eq_getD_getElem?] at h2
    simp only [Option.bind_some]
    rw [← h2]
    cases a.tmps[d]? with
    | none => simp [undef]
    | some v => cases v <;> simp

/-- where an activation has come to when it hands v back -/
def Left (C : Ctx) (cs : List Frame) (v : Value) (w' : World) (m' : Machine) : Prop :=
  match C.r with
  | none => ∃ fr, m' = lone fr cs w' ∧ fr.fn = C.f ∧ fr.leaving C.P w' (.returned v)
  | some _ => ∃ c cs', cs = c :: cs' ∧ m' = lone (c.finish v) cs' w'

/-- the activation that stands at the stack k comes to its end and hands back v with R -/
def Runs (C : Ctx) (k : List Item) (e : Env) (D : List Deferred) (w : World) : Prop :=
  stackOk C.n k = true → ∀ (a : Act) (b : Frame) (cs : List Frame), Rep C.n a e → a.defers = D → b.fn = C.f → b.roundOf = C.r → b.kind = .normal →
    (C.r.isSome = true → cs ≠ []) → ∃ v w' m', C.R v w' ∧ Steps C.P (lone (b.atR a k) cs w) m' ∧ Left C cs v w' m'

/-- the same in a region: l: the operations that are left, in their order -/
def RunsL (C : Ctx) (ops : Array Oper) (l : List Oper) (k : List Item) (e : Env) (D : List Deferred) (w : World) : Prop :=
  ops.all (opOk C.n) = true → ∀ idx : List Nat, idx.map (ops[·]?) = l.map some → Runs C (.inRegion ops idx :: k) e D w

def Ret (P : Program) (f : FuncId) (args : List Value) (w : World) (R : Value → World → Prop) : Prop :=
  Calls P f args.toArray w fun e w' => ∃ v, e = .returned v ∧ R v w'

theorem Ret.mono {P : Program} {f : FuncId} {args : List Value} {w : World} {R R' : Value → World → Prop} (h : Ret P f args w R)
    (hr : ∀ v w', R v w' → R' v w') : Ret P f args w R' := fun cs =>
  let ⟨e, w', fr, ⟨v, hv, r⟩, s, x⟩ := h cs
  ⟨e, w', fr, ⟨v, hv, hr _ _ r⟩, s, x⟩

/-- a round of a range-over-func loop, from its frame on, hands a value back to whoever called yield -/
def RoundEnds (P : Program) (l : Nat) (f : FuncId) (tmps : Array Value) (x y : Code) (w : World) (R : Value → World → Prop) : Prop :=
  ∀ c cs, ∃ v w', R v w' ∧ Steps P (lone (Frame.round l f tmps x y .normal) (c :: cs) w) (lone (c.finish v) cs w')
theorem RoundEnds.mono {P : Program} {l : Nat} {f : FuncId} {tmps : Array Value} {x y : Code} {w : World} {R R' : Value → World → Prop} (h : RoundEnds P l f tmps x y w R) (hr : ∀ v w', R v w' → R' v w') : RoundEnds P l f tmps x y w R' := fun c cs =>
  let ⟨v, w', r, s⟩ := h c cs
  ⟨v, w', hr _ _ r, s⟩

section rules
variable {C : Ctx} {k : List Item} {e : Env} {D : List Deferred} {w : World}

theorem runs_step {k' : List Item} {w' : World} (hok : stackOk C.n k = true → stackOk C.n k' = true)
    (hs : ∀ (a : Act) (b : Frame) (cs : List Frame), Rep C.n a e → a.defers = D → b.roundOf = C.r → step C.P (lone (b.atR a k) cs w) = .next (lone (b.atR a k') cs w'))
    (h : Runs C k' e D w') : Runs C k e D w := by
  intro hk a b cs ha hD hf hr hki hcs
  obtain ⟨v, w₂, m', hR, hst, hl⟩ := h (hok hk) a b cs ha hD hf hr hki hcs
  exact ⟨v, w₂, m', hR, .head (hs a b cs ha hD hr) hst, hl⟩

theorem r_seq {x y : Code} (h : Runs C (.code x :: .code y :: k) e D w) : Runs C (.code (.seq x y) :: k) e D w :=
  runs_step (by simp [stackOk, itemOk, codeOk]; intro a b c; exact ⟨a, b, c⟩) (fun _ _ _ _ _ _ => stepR_seq) h
theorem r_skip (h : Runs C k e D w) : Runs C (.code .skip :: k) e D w :=
  runs_step (by simp [stackOk, itemOk, codeOk]) (fun _ _ _ _ _ _ => stepR_skip) h
theorem r_label {l : Nat} (h : Runs C k e D w) : Runs C (.code (.label l) :: k) e D w :=
  runs_step (by simp [stackOk, itemOk, codeOk]) (fun _ _ _ _ _ _ => stepR_label) h
theorem r_inBlock {id : Nat} (h : Runs C k e D w) : Runs C (.inBlock id :: k) e D w :=
  runs_step (by simp [stackOk, itemOk]) (fun _ _ _ _ _ _ => stepR_inBlock) h
theorem r_block {id : Nat} {c : Code} (h : Runs C (.code c :: .inBlock id :: k) e D w) : Runs C (.code (.block id c) :: k) e D w :=
  runs_step (by simp [stackOk, itemOk, codeOk]) (fun _ _ _ _ _ _ => stepR_block) h
theorem stepR_scope {P : Program} {b : Frame} {a : Act} {cs : List Frame} {c : Code} : step P (lone (b.atR a (.code (.scope c) :: k)) cs w) = .next (lone (b.atR a (.code c :: .inScope c :: k)) cs w) :=
  step_lone_go (by simp [stepG, stepG.exec, Frame.atR])
theorem stepR_inScope {P : Program} {b : Frame} {a : Act} {cs : List Frame} {c : Code} : step P (lone (b.atR a (.inScope c :: k)) cs w) = .next (lone (b.atR a k) cs w) :=
  step_lone_go (by simp [stepG, stepG.exec, Frame.atR])
theorem r_scope {c : Code} (h : Runs C (.code c :: .inScope c :: k) e D w) : Runs C (.code (.scope c) :: k) e D w :=
  runs_step (by simp [stackOk, itemOk, codeOk]) (fun _ _ _ _ _ _ => stepR_scope) h
theorem r_inScope {c : Code} (h : Runs C k e D w) : Runs C (.inScope c :: k) e D w :=
  runs_step (by simp [stackOk, itemOk]) (fun _ _ _ _ _ _ => stepR_inScope) h
theorem r_loop {c : Code} (h : Runs C (.code c :: .inLoop c :: k) e D w) : Runs C (.code (.loop c) :: k) e D w :=
  runs_step (by simp [stackOk, itemOk, codeOk]) (fun _ _ _ _ _ _ => stepR_loop) h
theorem r_inLoop {c : Code} (h : Runs C (.code c :: .inLoop c :: k) e D w) : Runs C (.inLoop c :: k) e D w :=
  runs_step (by simp [stackOk, itemOk]) (fun _ _ _ _ _ _ => stepR_inLoop) h

theorem exitTo_ok {n id : Nat} : ∀ {k k' : List Item}, exitTo id k = some k' → stackOk n k = true → stackOk n k' = true
  | [], _, h, _ => by simp [exitTo] at h
  | x :: k, k', h, hk => by
    have hk2 := (stackOk_cons.1 hk).2
    cases x with
    | inBlock id' =>
      simp only [exitTo] at h
      split at h
      · cases h; exact hk2
      · exact exitTo_ok h hk2
    | _ => exact exitTo_ok (by simpa [exitTo] using h) hk2
theorem r_exit {id : Nat} {k' : List Item} (hx : exitTo id k = some k') (h : Runs C k' e D w) : Runs C (.code (.exit id) :: k) e D w :=
  runs_step (fun hk => exitTo_ok hx (stackOk_cons.1 hk).2) (fun _ _ _ _ _ _ => stepR_exit hx) h

theorem r_cond {c : Operand} {x y : Code} {t : Bool} (hc : ev e c = .bool t) (ht : t = true → Runs C (.code x :: k) e D w)
    (hf : t = false → Runs C (.code y :: k) e D w) : Runs C (.code (.cond c x y) :: k) e D w := by
  have hs : ∀ (a : Act) (b : Frame) (cs : List Frame), Rep C.n a e → a.defers = D → b.roundOf = C.r →
      step C.P (lone (b.atR a (.code (.cond c x y) :: k)) cs w) = .next (lone (b.atR a (.code (if t then x else y) :: k)) cs w) :=
    fun a b cs ha _ _ => stepR_cond (by rw [ha.eval]; exact hc)
  cases t with
  | true => exact runs_step (by simp [stackOk, itemOk, codeOk]; intro a b c; exact ⟨a, c⟩) hs (ht rfl)
  | false => exact runs_step (by simp [stackOk, itemOk, codeOk]; intro a b c; exact ⟨b, c⟩) hs (hf rfl)
theorem r_cond_t {c : Operand} {x y : Code} (hc : ev e c = .bool true) (h : Runs C (.code x :: k) e D w) : Runs C (.code (.cond c x y) :: k) e D w :=
  r_cond hc (fun _ => h) (fun h => by cases h)
theorem r_cond_f {c : Operand} {x y : Code} (hc : ev e c = .bool false) (h : Runs C (.code y :: k) e D w) : Runs C (.code (.cond c x y) :: k) e D w :=
  r_cond hc (fun h => by cases h) (fun _ => h)

/-- a loop: I: what holds at each round's head, by a ghost x; mu: what each round lowers -/
theorem r_rounds {α : Type} (I : α → Env → World → Prop) (mu : α → Nat) {c : Code} (x : α) (h0 : I x e w)
    (round : ∀ x e w, I x e w → (∀ y e' w', I y e' w' → mu y < mu x → Runs C (.inLoop c :: k) e' D w') → Runs C (.code c :: .inLoop c :: k) e D w) :
    Runs C (.code (.loop c) :: k) e D w := by
  have key : ∀ j x e w, mu x = j → I x e w → Runs C (.code c :: .inLoop c :: k) e D w := by
    intro j
    induction j using Nat.strongRecOn with
    | _ j ih =>
      intro x e w hj hI
      refine round x e w hI fun y e' w' hI' hlt => r_inLoop ?_
      exact ih (mu y) (by omega) y e' w' rfl hI'
  exact r_loop (key _ x e w rfl h0)

theorem map_range (ops : Array Oper) : (List.range ops.size).map (ops[·]?) = ops.toList.map some := by
  apply List.ext_getElem?
  intro i
  by_cases h : i < ops.size
  · simp [h]
  · have h' : ops.size ≤ i := by omega
    rw [List.getElem?_eq_none (by simpa using h'), List.getElem?_eq_none (by simpa using h')]

theorem r_region {id : Nat} {ops : Array Oper} (h : RunsL C ops ops.toList k e D w) : Runs C (.code (.region id ops false) :: k) e D w := by
  intro hk
  have hops : ops.all (opOk C.n) = true := (stackOk_cons.1 hk).1
  exact runs_step (k' := .inRegion ops (List.range ops.size) :: k) (fun _ => stackOk_cons.2 ⟨hops, (stackOk_cons.1 hk).2⟩)
    (fun _ _ _ _ _ _ => stepR_region) (h hops _ (map_range ops)) hk
theorem r_region' {id : Nat} {l : List Oper} (h : RunsL C l.toArray l k e D w) : Runs C (.code (.region id l.toArray false) :: k) e D w := r_region h

theorem l_nil {ops : Array Oper} (h : Runs C k e D w) : RunsL C ops [] k e D w := by
  intro _ idx hi
  have : idx = [] := by cases idx <;> simp_all
  subst this
  exact runs_step (fun hk => (stackOk_cons.1 hk).2) (fun _ _ _ _ _ _ => stepR_region_end) h

end rules

section ops
variable {C : Ctx} {ops : Array Oper} {o : Oper} {rest : List Oper} {k : List Item} {e : Env} {D : List Deferred} {w : World}

def wantedE (ops : Array Oper) (e : Env) (o : Oper) : Bool :=
  match o.guard with
  | none => true
  | some (j, want) => (match (ops[j]?).bind (·.dst) with
      | some d => (match e d with | .bool b => some b | _ => none)
      | none => none) == some want

theorem wanted_eq {n : Nat} {a : Act} (ha : Rep n a e) : Region.wanted o (yielded ops a.tmps) = wantedE ops e o := by
  unfold Region.wanted wantedE
  cases o.guard with
  | none => rfl
  | some g => obtain ⟨j, want⟩ := g; simp only [ha.yielded]

def notDefer (o : Oper) : Bool := match o.op with | .defer _ => false | _ => true

theorem semAt_notDefer (h : notDefer o = true) (ro : Option Nat) (ρ : Operand → Value) : o.semAt ro ρ = execOp ρ o :=
  Oper.semAt_eq ro ρ o (fun c hc => by simp [notDefer, hc] at h)

theorem idx_cons {idx : List Nat} (h : idx.map (ops[·]?) = (o :: rest).map some) : ∃ i idx', idx = i :: idx' ∧ ops[i]? = some o ∧ idx'.map (ops[·]?) = rest.map some := by
  cases idx with
  | nil => simp at h
  | cons i idx' => simp only [List.map_cons, List.cons.injEq] at h; exact ⟨i, idx', rfl, h.1, h.2⟩

theorem opOk_dst {n : Nat} {i : Nat} (h : ops.all (opOk n) = true) (hi : ops[i]? = some o) : ∀ t, o.dst = some t → t < n := by
  intro t ht
  rw [Array.all_eq_true] at h
  obtain ⟨hlt, he⟩ := Array.getElem?_eq_some_iff.1 hi
  have := h i hlt
  rw [he] at this
  simpa [opOk, ht] using this

theorem i_skip {i : Nat} {idx : List Nat} (hops : ops.all (opOk C.n) = true) (ho : ops[i]? = some o) (hw : wantedE ops e o = false) (h : Runs C (.inRegion ops idx :: k) (updo e o.dst undef) D w) :
    Runs C (.inRegion ops (i :: idx) :: k) e D w := by
  intro hk a b cs ha hD hf hr hki hcs
  have hs := stepR_op_skip (P := C.P) (b := b) (a := a) (k := k) (cs := cs) (w := w) (ops := ops) (i := i) (rest := idx)
    (by rw [ho]; simp only [Option.map_some, Option.getD_some]; rw [wanted_eq ha]; exact hw)
  rw [ho] at hs
  obtain ⟨v, w₂, m', hR, hst, hl⟩ := h hk _ b cs (ha.put o.dst undef (opOk_dst hops ho)) (by cases hd : o.dst <;> simp [Act.put, hD]) hf hr hki hcs
  exact ⟨v, w₂, m', hR, .head hs hst, hl⟩
theorem i_value {i : Nat} {idx : List Nat} (hops : ops.all (opOk C.n) = true) (ho : ops[i]? = some o) {v : Value} {w' : World} (hw : wantedE ops e o = true) (hd : notDefer o = true) (hx : (execOp (ev e) o).run C.P w = .ok (.value v) w')
    (h : Runs C (.inRegion ops idx :: k) (updo e o.dst v) D w') : Runs C (.inRegion ops (i :: idx) :: k) e D w := by
  intro hk a b cs ha hD hf hr hki hcs
  have hg := stepGR_op (P := C.P) (b := b) (a := a) (k := k) (cs := cs) (w := w) (rest := idx) ho (by rw [wanted_eq ha]; exact hw)
  rw [semAt_notDefer hd, ha.eval] at hg
  have hs : step C.P (lone (b.atR a (.inRegion ops (i :: idx) :: k)) cs w) = .next (lone (b.atR (a.put o.dst v) (.inRegion ops idx :: k)) cs w') :=
    step_lone_go (by rw [hg, show b.atR (a.put o.dst v) (.inRegion ops idx :: k) = (b.atR a (.inRegion ops (i :: idx) :: k)).finish v from by rw [Frame.finish_atR, ho]; rfl]; simp [stepG.apply, hx])
  obtain ⟨u, w₂, m', hR, hst, hl⟩ := h hk _ b cs (ha.put o.dst v (opOk_dst hops ho)) (by cases hd : o.dst <;> simp [Act.put, hD]) hf hr hki hcs
  exact ⟨u, w₂, m', hR, .head hs hst, hl⟩
theorem i_done {i : Nat} {idx : List Nat} (hops : ops.all (opOk C.n) = true) (ho : ops[i]? = some o) {w' : World} (hw : wantedE ops e o = true) (hd : notDefer o = true) (hx : (execOp (ev e) o).run C.P w = .ok .skip w')
    (h : Runs C (.inRegion ops idx :: k) (updo e o.dst undef) D w') : Runs C (.inRegion ops (i :: idx) :: k) e D w := by
  intro hk a b cs ha hD hf hr hki hcs
  have hg := stepGR_op (P := C.P) (b := b) (a := a) (k := k) (cs := cs) (w := w) (rest := idx) ho (by rw [wanted_eq ha]; exact hw)
  rw [semAt_notDefer hd, ha.eval] at hg
  have hs : step C.P (lone (b.atR a (.inRegion ops (i :: idx) :: k)) cs w) = .next (lone (b.atR (a.put o.dst undef) (.inRegion ops idx :: k)) cs w') :=
    step_lone_go (by rw [hg, show b.atR (a.put o.dst undef) (.inRegion ops idx :: k) = (b.atR a (.inRegion ops (i :: idx) :: k)).finish undef from by rw [Frame.finish_atR, ho]; rfl]; simp [stepG.apply, hx])
  obtain ⟨u, w₂, m', hR, hst, hl⟩ := h hk _ b cs (ha.put o.dst undef (opOk_dst hops ho)) (by cases hd : o.dst <;> simp [Act.put, hD]) hf hr hki hcs
  exact ⟨u, w₂, m', hR, .head hs hst, hl⟩
theorem i_enter {i : Nat} {idx : List Nat} (hops : ops.all (opOk C.n) = true) (ho : ops[i]? = some o) {f : FuncId} {args : List Value} {w' : World} {R : Value → World → Prop} (hw : wantedE ops e o = true) (hd : notDefer o = true)
    (hx : (execOp (ev e) o).run C.P w = .ok (.enter f args.toArray) w') (hc : Ret C.P f args w' R)
    (h : ∀ v w'', R v w'' → Runs C (.inRegion ops idx :: k) (updo e o.dst v) D w'') : Runs C (.inRegion ops (i :: idx) :: k) e D w := by
  intro hk a b cs ha hD hf hr hki hcs
  have hg := stepGR_op (P := C.P) (b := b) (a := a) (k := k) (cs := cs) (w := w) (rest := idx) ho (by rw [wanted_eq ha]; exact hw)
  rw [semAt_notDefer hd, ha.eval] at hg
  have henter : step C.P (lone (b.atR a (.inRegion ops (i :: idx) :: k)) cs w) =
      .next (lone (Frame.enter C.P f args.toArray .normal) (b.atR a (.inRegion ops (i :: idx) :: k) :: cs) w') :=
    step_lone_go (by rw [hg]; simp [stepG.apply, hx, Frame.atR])
  obtain ⟨en, w₁, fr, ⟨v, rfl, hRv⟩, hsteps, _, hleave⟩ := hc (b.atR a (.inRegion ops (i :: idx) :: k) :: cs)
  have hback := step_leave_returned (c := b.atR a (.inRegion ops (i :: idx) :: k)) (cs := cs) hleave
  have hfin : (b.atR a (.inRegion ops (i :: idx) :: k)).finish v = b.atR (a.put o.dst v) (.inRegion ops idx :: k) := by rw [Frame.finish_atR, ho]; rfl
  rw [hfin] at hback
  obtain ⟨u, w₂, m', hR, hst, hl⟩ := h v w₁ hRv hk _ b cs (ha.put o.dst v (opOk_dst hops ho)) (by cases hd : o.dst <;> simp [Act.put, hD]) hf hr hki hcs
  exact ⟨u, w₂, m', hR, .head henter (Steps.trans hsteps (.head hback hst)), hl⟩

theorem i_round {i : Nat} {idx : List Nat} (hops : ops.all (opOk C.n) = true) (ho : ops[i]? = some o) {l : Nat} {f : FuncId} {tmps : Array Value} {x y : Code} {w' : World} (hw : wantedE ops e o = true) (hd : notDefer o = true)
    (hx : (execOp (ev e) o).run C.P w = .ok (.round l f tmps x y) w') (hc : RoundEnds C.P l f tmps x y w' (fun v w'' => Runs C (.inRegion ops idx :: k) (updo e o.dst v) D w'')) : Runs C (.inRegion ops (i :: idx) :: k) e D w := by
  intro hk a b cs ha hD hf hr hki hcs
  have hg := stepGR_op (P := C.P) (b := b) (a := a) (k := k) (cs := cs) (w := w) (rest := idx) ho (by rw [wanted_eq ha]; exact hw)
  rw [semAt_notDefer hd, ha.eval] at hg
  have henter : step C.P (lone (b.atR a (.inRegion ops (i :: idx) :: k)) cs w) =
      .next (lone (Frame.round l f tmps x y .normal) (b.atR a (.inRegion ops (i :: idx) :: k) :: cs) w') :=
    step_lone_go (by rw [hg]; simp [stepG.apply, hx])
  obtain ⟨v, w₁, hRv, hsteps⟩ := hc (b.atR a (.inRegion ops (i :: idx) :: k)) cs
  have hfin : (b.atR a (.inRegion ops (i :: idx) :: k)).finish v = b.atR (a.put o.dst v) (.inRegion ops idx :: k) := by rw [Frame.finish_atR, ho]; rfl
  rw [hfin] at hsteps
  obtain ⟨u, w₂, m', hR, hst, hl⟩ := hRv hk _ b cs (ha.put o.dst v (opOk_dst hops ho)) (by cases hd : o.dst <;> simp [Act.put, hD]) hf hr hki hcs
  exact ⟨u, w₂, m', hR, .head henter (Steps.trans hsteps hst), hl⟩

/-- the operation yields v and leaves the world as it is (or is not wanted) -/
def QuietAt (P : Program) (ops : Array Oper) (e : Env) (w : World) (o : Oper) (v : Value) : Prop :=
  (wantedE ops e o = true ∧ notDefer o = true ∧ (execOp (ev e) o).run P w = .ok (.value v) w) ∨ (wantedE ops e o = false ∧ v = undef)
/-- the operation comes to a value and a world with K -/
def EffAt (P : Program) (ops : Array Oper) (e : Env) (w : World) (o : Oper) (K : Value → World → Prop) : Prop :=
  (wantedE ops e o = true ∧ notDefer o = true ∧ ((∃ v w', (execOp (ev e) o).run P w = .ok (.value v) w' ∧ K v w') ∨ (∃ w', (execOp (ev e) o).run P w = .ok .skip w' ∧ K undef w') ∨
    (∃ f args w1, (execOp (ev e) o).run P w = .ok (.enter f (List.toArray args)) w1 ∧ Ret P f args w1 K) ∨
    (∃ l f tmps x y w1, (execOp (ev e) o).run P w = .ok (.round l f tmps x y) w1 ∧ RoundEnds P l f tmps x y w1 K))) ∨ (wantedE ops e o = false ∧ K undef w)

theorem EffAt.mono {P : Program} {K K' : Value → World → Prop} (h : EffAt P ops e w o K) (hk : ∀ v w', K v w' → K' v w') : EffAt P ops e w o K' := by
  rcases h with ⟨hw, hd, h⟩ | ⟨hw, h⟩
  · refine .inl ⟨hw, hd, ?_⟩
    rcases h with ⟨v, w', h1, h2⟩ | ⟨w', h1, h2⟩ | ⟨f, args, w1, h1, h2⟩ | ⟨l, f, tmps, x, y, w1, h1, h2⟩
    · exact .inl ⟨v, w', h1, hk _ _ h2⟩
    · exact .inr (.inl ⟨w', h1, hk _ _ h2⟩)
    · exact .inr (.inr (.inl ⟨f, args, w1, h1, h2.mono hk⟩))
    · exact .inr (.inr (.inr ⟨l, f, tmps, x, y, w1, h1, h2.mono hk⟩))
  · exact .inr ⟨hw, hk _ _ h⟩
theorem QuietAt.eff {P : Program} {v : Value} {K : Value → World → Prop} (h : QuietAt P ops e w o v) (hk : K v w) : EffAt P ops e w o K := by
  rcases h with ⟨hw, hd, h⟩ | ⟨hw, h⟩
  · exact .inl ⟨hw, hd, .inl ⟨v, w, h, hk⟩⟩
  · subst h; exact .inr ⟨hw, hk⟩

theorem e_value {P : Program} {K : Value → World → Prop} {v : Value} {w' : World} (hw : wantedE ops e o = true) (hd : notDefer o = true) (hx : (execOp (ev e) o).run P w = .ok (.value v) w') (h : K v w') : EffAt P ops e w o K :=
  .inl ⟨hw, hd, .inl ⟨v, w', hx, h⟩⟩
theorem e_done {P : Program} {K : Value → World → Prop} {w' : World} (hw : wantedE ops e o = true) (hd : notDefer o = true) (hx : (execOp (ev e) o).run P w = .ok .skip w') (h : K undef w') : EffAt P ops e w o K :=
  .inl ⟨hw, hd, .inr (.inl ⟨w', hx, h⟩)⟩
theorem i_o {i : Nat} {idx : List Nat} (hops : ops.all (opOk C.n) = true) (ho : ops[i]? = some o) (h : EffAt C.P ops e w o (fun v w' => Runs C (.inRegion ops idx :: k) (updo e o.dst v) D w')) :
    Runs C (.inRegion ops (i :: idx) :: k) e D w := by
  rcases h with ⟨hw, hd, h⟩ | ⟨hw, h⟩
  · rcases h with ⟨v, w', h1, h2⟩ | ⟨w', h1, h2⟩ | ⟨f, args, w1, h1, h2⟩ | ⟨l, f, tmps, x, y, w1, h1, h2⟩
    · exact i_value hops ho hw hd h1 h2
    · exact i_done hops ho hw hd h1 h2
    · exact i_enter hops ho hw hd h1 h2 (fun _ _ h => h)
    · exact i_round hops ho hw hd h1 h2
  · exact i_skip hops ho hw h
theorem l_o (h : EffAt C.P ops e w o (fun v w' => RunsL C ops rest k (updo e o.dst v) D w')) : RunsL C ops (o :: rest) k e D w := by
  intro hops idx hi
  obtain ⟨i, idx', rfl, ho, hi'⟩ := idx_cons hi
  exact i_o hops ho (h.mono fun v w' h => h hops idx' hi')
theorem l_q {v : Value} (h : QuietAt C.P ops e w o v) (hk : RunsL C ops rest k (updo e o.dst v) D w) : RunsL C ops (o :: rest) k e D w := l_o (h.eff hk)
theorem q_skip {P : Program} (hw : wantedE ops e o = false) : QuietAt P ops e w o undef := .inr ⟨hw, rfl⟩

end ops

section ends
variable {C : Ctx} {k : List Item} {e : Env} {D : List Deferred} {w : World}

theorem results_congr {fn : Func} {t u : Array Value} (h : ∀ i, t.getD i undef = u.getD i undef) : results fn t = results fn u := by
  unfold results
  simp only [h]

def marked (d : Nat) : Deferred := { target := .collected d, args := #[] }

/-- the marks of range-over-func loops are taken at the end -/
inductive Unw : World → List Deferred → World → Prop
  | nil (w : World) : Unw w [] w
  | cons {w w' : World} {d : Nat} {ds : List Deferred} (h : w.heap[d]? = some (.deferred (some []))) (h' : Unw { w with heap := w.heap.setIfInBounds d (.deferred none) } ds w') :
      Unw w (marked d :: ds) w'

theorem step_unw {P : Program} {fr : Frame} {cs : List Frame} {w : World} {d : Nat} {ds : List Deferred} (hm : fr.mode = .returning) (hd : fr.defers = marked d :: ds)
    (h : w.heap[d]? = some (.deferred (some []))) : step P (lone fr cs w) = .next (lone { fr with defers := ds } cs { w with heap := w.heap.setIfInBounds d (.deferred none) }) :=
  step_lone_go (by
    have hr : (Instr.takeDeferred d).run P w = .ok [] { w with heap := w.heap.setIfInBounds d (.deferred none) } := by
      simp [Instr.takeDeferred, getObj, setObj, Sem.run, h, bind, Sem.bind, pure]
    simp [stepG, unwind, hm, hd, marked, Sem.runT_eq, hr])

theorem unw_steps {P : Program} {cs : List Frame} {w w' : World} {D : List Deferred} (h : Unw w D w') : ∀ fr : Frame, fr.mode = .returning → fr.defers = D →
    Steps P (lone fr cs w) (lone { fr with defers := [] } cs w') := by
  induction h with
  | nil w =>
    intro fr hm hd
    cases fr
    simp only at hd
    subst hd
    exact .refl _ _
  | cons h h' ih =>
    intro fr hm hd
    refine .head (step_unw hm hd h) ?_
    exact ih { fr with defers := _ } hm rfl

theorem r_leave {fn : Func} {v : Value} {w' : World} (hr : C.r = none) (hf : C.P.funcs[C.f]? = some fn) (hu : Unw w D w')
    (hv : ∀ tmps : Array Value, (∀ t, tmps.getD t undef = e t) → (results fn tmps).run C.P w' = .ok v w') (hR : C.R v w')
    (hstep : ∀ (a : Act) (b : Frame) (cs : List Frame), b.roundOf = none → ∃ todo, step C.P (lone (b.atR a k) cs w) = .next (lone { b.atR a todo with mode := .returning } cs w)) : Runs C k e D w := by
  intro hk a b cs ha hD hfn hro hki hcs
  rw [hr] at hro
  obtain ⟨todo, hs⟩ := hstep a b cs hro
  have hun := unw_steps (P := C.P) (cs := cs) hu { b.atR a todo with mode := .returning } rfl hD
  refine ⟨v, w', _, hR, .head hs hun, ?_⟩
  unfold Left
  rw [hr]
  refine ⟨_, rfl, hfn, rfl, rfl, hki, fn, ?_, ?_⟩
  · show C.P.funcs[b.fn]? = some fn
    rw [hfn]; exact hf
  · exact hv a.tmps ha.2

theorem r_ret {fn : Func} {v : Value} {w' : World} (hr : C.r = none) (hf : C.P.funcs[C.f]? = some fn) (hu : Unw w D w')
    (hv : ∀ tmps : Array Value, (∀ t, tmps.getD t undef = e t) → (results fn tmps).run C.P w' = .ok v w') (hR : C.R v w') : Runs C (.code .ret :: k) e D w :=
  r_leave hr hf hu hv hR fun _ _ _ hb => ⟨_, stepR_ret hb⟩
theorem r_end {fn : Func} {v : Value} {w' : World} (hr : C.r = none) (hf : C.P.funcs[C.f]? = some fn) (hu : Unw w D w')
    (hv : ∀ tmps : Array Value, (∀ t, tmps.getD t undef = e t) → (results fn tmps).run C.P w' = .ok v w') (hR : C.R v w') : Runs C [] e D w :=
  r_leave hr hf hu hv hR fun _ _ _ hb => ⟨_, stepR_end hb⟩

def argEnv (args : List Value) : Env := fun t => args.getD t undef

/-- entering a function -/
theorem ret_of_runs {P : Program} {f : FuncId} {fn : Func} {c : Code} {args : List Value} {w : World} {R : Value → World → Prop}
    (hf : P.funcs[f]? = some fn) (hb : fn.body = some c) (hn : args.length ≤ fn.ntmps) (hok : codeOk fn.ntmps c = true)
    (h : Runs ⟨P, f, none, fn.ntmps, R⟩ [.code c] (argEnv args) [] w) : Ret P f args w R := by
  intro cs
  let b : Frame := { (default : Frame) with fn := f, kind := .normal, roundOf := none }
  let a : Act := { tmps := args.toArray ++ Array.replicate (fn.ntmps - args.toArray.size) undef, defers := [] }
  have henter : Frame.enter P f args.toArray .normal = b.atR a [.code c] := by
    simp [Frame.enter, Frame.atR, hf, hb, b, a]
  have ha : Rep fn.ntmps a (argEnv args) := by
    refine ⟨by simp [a]; omega, fun t => ?_⟩
    simp only [a, Array.getD_eq_getD_getElem?, argEnv, Array.getElem?_append, List.getD_eq_getElem?_getD]
    simp only [List.size_toArray, List.getElem?_toArray]
    split
    · rfl
    · rename_i hlt
      rw [List.getElem?_eq_none (by omega)]
      simp only [Option.getD_none, Array.getElem?_replicate]
      split <;> rfl
  obtain ⟨v, w', m', hR, hst, fr, rfl, hfr, hl⟩ := h (by simp [stackOk, itemOk, hok]) a b cs ha rfl rfl rfl rfl (by simp)
  rw [← henter] at hst
  exact ⟨.returned v, w', fr, ⟨v, rfl, hR⟩, hst, hfr, hl⟩

end ends
end Go.Gv
