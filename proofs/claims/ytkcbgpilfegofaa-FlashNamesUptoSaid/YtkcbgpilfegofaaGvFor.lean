/- Range-over-func: the statement, a call of yield, and a round's end. Conditions: none. -/
import Derived.Test.YtkcbgpilfegofaaGvSlc
import Derived.RangeFuncRecord
import Derived.RangeFuncIn
set_option linter.unusedVariables false
set_option linter.unusedSimpArgs false
namespace Go.Gv
open Go Go.RowKit

/-- the loop's record: which state, which jump is pending; the frame that its rounds begin with -/
def LoopAt (w : World) (l : Nat) (s : LoopState) (p : Option Code) (f : FuncId) (n : Nat) (e : Env) (ps : List Tmp) (x y : Code) : Prop :=
  ∃ (tmps : Array Value) (db : Nat), w.heap[l]? = some (.loop { state := s, pending := p, fn := f, tmps, params := ps.toArray, assign := x, body := y, defers := db }) ∧ tmps.size = n ∧ ∀ t, tmps.getD t undef = e t

theorem LoopAt.keep {w w' : World} {l : Nat} {s : LoopState} {p : Option Code} {f : FuncId} {n : Nat} {e : Env} {ps : List Tmp} {x y : Code} (h : LoopAt w l s p f n e ps x y) (hk : w'.heap[l]? = w.heap[l]?) : LoopAt w' l s p f n e ps x y := by
  obtain ⟨t, db, h1, h2⟩ := h
  exact ⟨t, db, hk.trans h1, h2⟩
theorem LoopAt.lt {w : World} {l : Nat} {s : LoopState} {p : Option Code} {f : FuncId} {n : Nat} {e : Env} {ps : List Tmp} {x y : Code} (h : LoopAt w l s p f n e ps x y) : l < w.heap.size := by
  obtain ⟨t, db, h1, h2⟩ := h
  exact (Array.getElem?_eq_some_iff.1 h1).1

theorem grownBy_putObj (w : World) (l : Nat) (o : Obj) : w.grownBy (w.putObj l o) (some l) := by
  refine ⟨rfl, rfl, rfl, by simp [World.putObj], fun k hk hne => ?_⟩
  simp only [World.putObj]
  rw [Array.getElem?_setIfInBounds_ne (fun h => hne (by rw [h]))]
theorem putObj_self {w : World} {l : Nat} {o : Obj} (h : l < w.heap.size) : (w.putObj l o).heap[l]? = some o := by
  simp [World.putObj, h]

def putPs (e : Env) : List (Tmp × Value) → Env
  | [] => e
  | (t, v) :: r => putPs (upd e t v) r

theorem fold_rep {n : Nat} : ∀ (l : List (Tmp × Value)) (tmps : Array Value) (e : Env), tmps.size = n → (∀ t, tmps.getD t undef = e t) → l.all (fun p => decide (p.1 < n)) = true →
    (l.foldl (fun tmps p => tmps.setIfInBounds p.1 p.2) tmps).size = n ∧ ∀ t, (l.foldl (fun tmps p => tmps.setIfInBounds p.1 p.2) tmps).getD t undef = putPs e l t
  | [], tmps, e, h1, h2, _ => ⟨h1, h2⟩
  | (t, v) :: r, tmps, e, h1, h2, h3 => by
    simp only [List.all_cons, Bool.and_eq_true, decide_eq_true_eq] at h3
    have hr : Rep n { tmps, defers := [] } e := ⟨h1, h2⟩
    have hp := hr.put (some t) v (fun u hu => by cases hu; exact h3.1)
    exact fold_rep r _ _ hp.1 hp.2 (by simpa using h3.2)

/-- a call of yield: the round -/
def YieldAt (P : Program) (l : Nat) (args : List Value) (w : World) (R : Value → World → Prop) : Prop :=
  ∃ r : Loop, w.heap[l]? = some (.loop r) ∧ args.length = r.params.size ∧ RoundEnds P l r.fn ((r.params.zip args.toArray).foldl (fun tmps (t, a) => tmps.setIfInBounds t a) r.tmps) r.assign r.body w R

section
variable {P : Program} {ops : Array Oper} {e : Env} {w : World}
variable {d : Option Nat} {ty : TypeId} {pos : String} {af : Array Edge} {g : Option (Nat × Bool)}
theorem o_yield {l : Nat} {x : Operand} {as : Array Operand} {at_ : Array TypeId} {args : List Value} {R K : Value → World → Prop}
    (hx : ev e x = .func (.yield l) ⟨[]⟩ ⟨[]⟩) (ha : as.toList.map (ev e) = args) (hc : YieldAt P l args w R)
    (hw : wantedE ops e ⟨d, .call ⟨.value x, as, at_⟩, ty, pos, af, g⟩ = true)
    (h : ∀ v w', R v w' → K v w') : EffAt P ops e w ⟨d, .call ⟨.value x, as, at_⟩, ty, pos, af, g⟩ K := by
  obtain ⟨r, hl, hs, hr⟩ := hc
  refine .inl ⟨hw, rfl, .inr (.inr (.inr ⟨l, _, _, _, _, w, ?_, hr.mono h⟩))⟩
  have h1 : (⟨[]⟩ : Array Value) ++ (Array.map (ev e) as) = args.toArray := by rw [← ha, map_list]; apply Array.ext'; simp
  have h2 := run_yield (P := P) (args := args.toArray) hl (by simpa using hs)
  simp only [execOp, resolve, hx, Deferred.ofValue, invoke, h1, Sem.run_bind, Sem.run_pure, Result.andThen_ok, h2]
end

/-- a round, out of its walk -/
theorem yieldAt_of {P : Program} {f : FuncId} {l n : Nat} {s : LoopState} {p : Option Code} {e : Env} {ps : List Tmp} {x y : Code} {args : List Value} {w : World} {R : Value → World → Prop}
    (hl : LoopAt w l s p f n e ps x y) (hn : args.length = ps.length) (hps : (ps.zip args).all (fun p => decide (p.1 < n)) = true) (hok : stackOk n [.code x, .beginRound, .code y] = true)
    (h : Runs ⟨P, f, some l, n, R⟩ [.code x, .beginRound, .code y] (putPs e (ps.zip args)) [] w) : YieldAt P l args w R := by
  obtain ⟨tmps, db, hb, hsz, hrep⟩ := hl
  refine ⟨_, hb, by simpa using hn, fun c cs => ?_⟩
  simp only
  let b : Frame := { (default : Frame) with fn := f, kind := .normal, roundOf := some l }
  have hz : (ps.toArray.zip args.toArray) = (ps.zip args).toArray := by simp
  have hfr := fold_rep (ps.zip args) tmps e hsz hrep hps
  rw [hz]
  have hb0 : ∀ T : Array Value, Frame.round l f T x y .normal = b.atR { tmps := T, defers := [] } [.code x, .beginRound, .code y] := fun T => by
    simp [Frame.round, Frame.atR, b]
  rw [hb0, List.foldl_toArray]
  obtain ⟨v, w', m', hR, hst, hle⟩ := h hok { tmps := _, defers := [] } b (c :: cs) ⟨by simpa using hfr.1, fun t => by simpa using hfr.2 t⟩ rfl rfl rfl rfl (by simp)
  obtain ⟨c', cs', hc, rfl⟩ := hle
  cases hc
  exact ⟨v, w', hR, hst⟩

section
variable {C : Ctx} {k : List Item} {e : Env} {D : List Deferred} {w : World} {l : Nat}
theorem r_begin {p : Option Code} {f : FuncId} {n : Nat} {e0 : Env} {ps : List Tmp} {x y : Code} (hr : C.r = some l) (hl : LoopAt w l .ready p f n e0 ps x y)
    (h : ∀ w', w'.heap.size = w.heap.size → w.grownBy w' (some l) → LoopAt w' l .busy p f n e0 ps x y → Runs C k e D w') : Runs C (.beginRound :: k) e D w := by
  obtain ⟨tmps, db, hb, hsz, hrep⟩ := hl
  refine runs_step (w' := w.putObj l _) (fun hk => (stackOk_cons.1 hk).2) (fun a b cs _ _ hbr => stepR_beginRound (by rw [hbr, hr]) (run_beginRound hb rfl)) ?_
  exact h _ (by simp [World.putObj]) (grownBy_putObj _ _ _) ⟨tmps, db, putObj_self (Array.getElem?_eq_some_iff.1 hb).1, hsz, hrep⟩
theorem r_round_leave {s : LoopState} {p : Option Code} {f : FuncId} {n : Nat} {e0 : Env} {ps : List Tmp} {x y : Code} (jump : Option Code) (hr : C.r = some l) (hl : LoopAt w l s p f n e0 ps x y)
    (hstep : ∀ (a : Act) (b : Frame) (c : Frame) (cs : List Frame) (v : Value) (w' : World), b.roundOf = some l → b.kind = .normal → (Instr.endRound l jump).run C.P w = .ok v w' → step C.P (lone (b.atR a k) (c :: cs) w) = .next (lone (c.finish v) cs w'))
    (h : ∀ w', w'.heap.size = w.heap.size → w.grownBy w' (some l) → LoopAt w' l (if jump.isNone then .ready else .done) jump f n e0 ps x y → C.R (.bool jump.isNone) w') : Runs C k e D w := by
  obtain ⟨tmps, db, hb, hsz, hrep⟩ := hl
  intro hk a b cs ha hD hf hro hki hcs
  rw [hr] at hro
  have hcs := hcs (by rw [hr]; rfl)
  cases cs with
  | nil => exact absurd rfl hcs
  | cons c cs =>
    have hs := hstep a b c cs _ _ hro hki (run_endRound jump hb)
    refine ⟨_, _, _, h _ (by simp [World.putObj]) (grownBy_putObj _ _ _) ⟨tmps, db, putObj_self (Array.getElem?_eq_some_iff.1 hb).1, hsz, hrep⟩, .one hs, ?_⟩
    unfold Left
    rw [hr]
    exact ⟨c, cs, rfl, rfl⟩
theorem r_round_end {s : LoopState} {p : Option Code} {f : FuncId} {n : Nat} {e0 : Env} {ps : List Tmp} {x y : Code} (hr : C.r = some l) (hl : LoopAt w l s p f n e0 ps x y)
    (h : ∀ w', w'.heap.size = w.heap.size → w.grownBy w' (some l) → LoopAt w' l .ready none f n e0 ps x y → C.R (.bool true) w') : Runs C [] e D w :=
  r_round_leave none hr hl (fun _ _ _ _ _ _ hb hk hr => stepR_round_end hb hk hr) h
theorem r_round_exit {s : LoopState} {p : Option Code} {f : FuncId} {n id : Nat} {e0 : Env} {ps : List Tmp} {x y : Code} (hr : C.r = some l) (hx : exitTo id k = none) (hl : LoopAt w l s p f n e0 ps x y)
    (h : ∀ w', w'.heap.size = w.heap.size → w.grownBy w' (some l) → LoopAt w' l .done (some (.exit id)) f n e0 ps x y → C.R (.bool false) w') : Runs C (.code (.exit id) :: k) e D w :=
  r_round_leave (some (.exit id)) hr hl (fun _ _ _ _ _ _ hb hk hr => stepR_round_exit hb hk hx hr) h
theorem r_round_ret {s : LoopState} {p : Option Code} {f : FuncId} {n : Nat} {e0 : Env} {ps : List Tmp} {x y : Code} (hr : C.r = some l) (hl : LoopAt w l s p f n e0 ps x y)
    (h : ∀ w', w'.heap.size = w.heap.size → w.grownBy w' (some l) → LoopAt w' l .done (some .ret) f n e0 ps x y → C.R (.bool false) w') : Runs C (.code .ret :: k) e D w :=
  r_round_leave (some .ret) hr hl (fun _ _ _ _ _ _ hb hk hr => stepR_round_ret hb hk hr) h

/-- the statement 'for .. := range g { .. }', outermost -/
theorem r_rangeFunc {g : Operand} {ps : List Tmp} {x y : Code} {f : FuncId} {fst cap : List Value} (hr : C.r = none) (hg : ev e g = .func (.func f) ⟨fst⟩ ⟨cap⟩) (hin : ∀ args w, (callFunc f args).run C.P w = .ok (.enter f args) w)
    (h : ∀ (l db : Nat) (w1 : World), Ext w w1 → w.heap.size ≤ l → w.heap.size ≤ db → db ≠ l → db < w1.heap.size → w1.heap[db]? = some (.deferred (some [])) → LoopAt w1 l .ready none C.f C.n e ps x y →
      Ret C.P f (fst ++ [.func (.yield l) ⟨[]⟩ ⟨[]⟩] ++ cap) w1 (fun _ w2 => ∃ s p, s ≠ .busy ∧ LoopAt w2 l s p C.f C.n e ps x y ∧ stackOk C.n ((p.map Item.code).toList) = true ∧
        ∀ w3, w3.heap.size = w2.heap.size → w2.grownBy w3 (some l) → Runs C ((p.map Item.code).toList ++ k) e (marked db :: D) w3)) : Runs C (.code (.rangeFunc g ps.toArray x y) :: k) e D w := by
  intro hk a b cs ha hD hf hro hki hcs
  rw [hr] at hro
  let L : Loop := { state := .ready, pending := none, fn := C.f, tmps := a.tmps, params := ps.toArray, assign := x, body := y, defers := w.heap.size }
  let w1 : World := (w.alloc (.deferred (some []))).alloc (.loop L)
  have he : (Instr.enterLoop b.fn a.tmps ps.toArray x y b.roundOf).run C.P w = .ok (w.heap.size + 1, [marked w.heap.size]) w1 := by
    rw [hro, hf]; exact run_enterLoop_outer _ _ _ _ _
  have hgv : a.eval g = .func (.func f) ⟨fst⟩ ⟨cap⟩ := by rw [ha.eval]; exact hg
  have hres : (resolve a.eval (rangeCall g (w.heap.size + 1)) 0).run C.P w1 = .ok (Deferred.mk (.fn (.func f) ⟨cap⟩) (⟨fst⟩ ++ #[.func (.yield (w.heap.size + 1)) #[] #[]])) w1 := by
    have hm : Array.map a.eval #[.const (Value.func (.yield (w.heap.size + 1)) #[] #[])] = #[Value.func (.yield (w.heap.size + 1)) #[] #[]] := by simp [Act.eval]
    simp only [resolve, rangeCall, hgv, Deferred.ofValue, Sem.run_bind, Sem.run_pure, Result.andThen_ok, hm]
  have hargs : ((⟨fst⟩ : Array Value) ++ #[Value.func (.yield (w.heap.size + 1)) #[] #[]]) ++ ⟨cap⟩ = (fst ++ [Value.func (.yield (w.heap.size + 1)) ⟨[]⟩ ⟨[]⟩] ++ cap).toArray := by apply Array.ext'; simp
  have hinv : (invoke (Target.fn (.func f) ⟨cap⟩) (⟨fst⟩ ++ #[.func (.yield (w.heap.size + 1)) #[] #[]])).run C.P w1 = .ok (.enter f (fst ++ [Value.func (.yield (w.heap.size + 1)) ⟨[]⟩ ⟨[]⟩] ++ cap).toArray) w1 := by
    simp only [invoke, hargs, hin]
  have hs := stepR_rangeFunc (b := b) (a := a) (k := k) (cs := cs) he hres hinv
  have hdb : w1.heap[w.heap.size]? = some (.deferred (some [])) := by
    have h1 := heap_alloc_new w (.deferred (some []))
    rw [← h1]
    exact Below.heap_alloc _ _ _ (by rw [World.size_alloc]; omega)
  have hlb : w1.heap[w.heap.size + 1]? = some (.loop L) := by
    have := heap_alloc_new (w.alloc (.deferred (some []))) (.loop L)
    rwa [World.size_alloc] at this
  have hE : Ext w w1 := ⟨rfl, rfl, rfl, by simp [w1, World.size_alloc]; omega, fun j hj _ => by
    show w1.heap[j]? = _
    rw [Below.heap_alloc _ _ _ (by rw [World.size_alloc]; omega), Below.heap_alloc _ _ _ hj]⟩
  obtain ⟨en, w2, fr, ⟨v, rfl, hRv⟩, hsteps, _, hleave⟩ := h (w.heap.size + 1) w.heap.size w1 hE (by omega) (by omega) (by omega) (by simp [w1, World.size_alloc]; omega) hdb ⟨a.tmps, w.heap.size, hlb, ha.1, ha.2⟩
    (b.atR { a with defers := [marked w.heap.size] ++ a.defers } (.inRangeFunc (w.heap.size + 1) :: k) :: cs)
  have hback := step_leave_returned (c := b.atR { a with defers := [marked w.heap.size] ++ a.defers } (.inRangeFunc (w.heap.size + 1) :: k)) (cs := cs) hleave
  rw [finish_atR_inRangeFunc] at hback
  obtain ⟨s, p, hsb, ⟨tmps, db, hb2, _, _⟩, hpk, hrun⟩ := hRv
  have hend := stepR_endRangeFunc (b := b) (a := { a with defers := [marked w.heap.size] ++ a.defers }) (k := k) (cs := cs) (run_endLoop (P := C.P) hb2 hsb)
  have hk' : stackOk C.n ((p.map Item.code).toList ++ k) = true := by
    rw [stackOk, List.all_append, Bool.and_eq_true]
    exact ⟨hpk, (stackOk_cons.1 hk).2⟩
  obtain ⟨u, w3, m', hR, hst, hl⟩ := hrun (w2.putObj (w.heap.size + 1) _) (by simp [World.putObj]) (grownBy_putObj _ _ _) hk' { a with defers := [marked w.heap.size] ++ a.defers } b cs ha (by simp [hD]) hf (by rw [hro, hr]) hki hcs
  exact ⟨u, w3, m', hR, .head hs (Steps.trans hsteps (.head hback (.head hend hst))), hl⟩
end
end Go.Gv
