/- Range-over-func: the statement, a call of yield, and a round's end. Conditions: none. -/
import Derived.Test.YtbikicakdkbcgacGreatGvA
import Derived.RangeFuncRecord
import Derived.RangeFuncIn
import Derived.Carry
import Derived.Laws.StructEq
import Derived.ChangeKeysEq
import Derived.Lib.SliceRun
set_option linter.unusedVariables false
set_option linter.unusedSimpArgs false
namespace Go.Gv
open Go Go.RowKit

/-- the loop's record: which state, which jump is pending; the frame that its rounds begin with -/
def LoopAt (w : World) (l : Nat) (s : LoopState) (p : Option Code) (f : FuncId) (n : Nat) (e : Env) (ps : List Tmp) (x y : Code) : Prop :=
  ∃ (tmps : Array Value) (db : Nat), w.heap[l]? = some (.loop { state := s, pending := p, fn := f, tmps, params := ps.toArray, assign := x, body := y, defers := db }) ∧ tmps.size = n ∧ ∀ t, tmps.getD t undef = e t

theorem LoopAt.keep {w w' : World} {l : Nat} {s : LoopState} {p : Option Code} {f : FuncId} {n : Nat} {e : Env} {ps : List Tmp} {x y : Code} (h : LoopAt w l s p f n e ps x y) (hk : w'.heap[l]? = w.heap[l]?) : LoopAt w' l s p f n e ps x y := by
  obtain ⟨t, db, h1, h2⟩ := h
  exact ⟨t, db, hk.trans h1, h2⟩
theorem LoopAt.lt {w : World} {l : Nat} {s : LoopState} {p : Option Code} {f : FuncId} {n : Nat} {e : Env} {ps : List Tmp} {x y : Code} (h : LoopAt w l s p f n e ps x y) : l < w.heap.size := by
  obtain ⟨t, db, h1, h2⟩ := h
  exact (Array.getElem?_eq_some_iff.1 h1).1

theorem grownBy_putObj (w : World) (l : Nat) (o : Obj) : w.grownBy (w.putObj l o) (some l) := by
  refine ⟨rfl, rfl, rfl, by simp [World.putObj], fun k hk hne => ?_⟩
  simp only [World.putObj]
  rw [Array.getElem?_setIfInBounds_ne (fun h => hne (by rw [h]))]
theorem putObj_self {w : World} {l : Nat} {o : Obj} (h : l < w.heap.size) : (w.putObj l o).heap[l]? = some o := by
  simp [World.putObj, h]

def putPs (e : Env) : List (Tmp × Value) → Env
  | [] => e
  | (t, v) :: r => putPs (upd e t v) r

theorem fold_rep {n : Nat} : ∀ (l : List (Tmp × Value)) (tmps : Array Value) (e : Env), tmps.size = n → (∀ t, tmps.getD t undef = e t) → l.all (fun p => decide (p.1 < n)) = true →
    (l.foldl (fun tmps p => tmps.setIfInBounds p.1 p.2) tmps).size = n ∧ ∀ t, (l.foldl (fun tmps p => tmps.setIfInBounds p.1 p.2) tmps).getD t undef = putPs e l t
  | [], tmps, e, h1, h2, _ => ⟨h1, h2⟩
  | (t, v) :: r, tmps, e, h1, h2, h3 => by
    simp only [List.all_cons, Bool.and_eq_true, decide_eq_true_eq] at h3
    have hr : Rep n { tmps, defers := [] } e := ⟨h1, h2⟩
    have hp := hr.put (some t) v (fun u hu => by cases hu; exact h3.1)
    exact fold_rep r _ _ hp.1 hp.2 (by simpa using h3.2)

/-- a call of yield: the round -/
def YieldAt (P : Program) (l : Nat) (args : List Value) (w : World) (R : Value → World → Prop) : Prop :=
  ∃ r : Loop, w.heap[l]? = some (.loop r) ∧ args.length = r.params.size ∧ RoundEnds P l r.fn ((r.params.zip args.toArray).foldl (fun tmps (t, a) => tmps.setIfInBounds t a) r.tmps) r.assign r.body w R

section
variable {P : Program} {ops : Array Oper} {e : Env} {w : World}
variable {d : Option Nat} {ty : TypeId} {pos : String} {af : Array Edge} {g : Option (Nat × Bool)}
theorem o_yield {l : Nat} {x : Operand} {as : Array Operand} {at_ : Array TypeId} {args : List Value} {R K : Value → World → Prop}
    (hx : ev e x = .func (.yield l) ⟨[]⟩ ⟨[]⟩) (ha : as.toList.map (ev e) = args) (hc : YieldAt P l args w R)
    (hw : wantedE ops e ⟨d, .call ⟨.value x, as, at_⟩, ty, pos, af, g⟩ = true)
    (h : ∀ v w', R v w' → K v w') : EffAt P ops e w ⟨d, .call ⟨.value x, as, at_⟩, ty, pos, af, g⟩ K := by
  obtain ⟨r, hl, hs, hr⟩ := hc
  refine .inl ⟨hw, rfl, .inr (.inr (.inr ⟨l, _, _, _, _, w, ?_, hr.mono h⟩))⟩
  have h1 : (⟨[]⟩ : Array Value) ++ (Array.map (ev e) as) = args.toArray := by rw [← ha, map_list]; apply Array.ext'; simp
  have h2 := run_yield (P := P) (args := args.toArray) hl (by simpa using hs)
  simp only [execOp, resolve, hx, Deferred.ofValue, invoke, h1, Sem.run_bind, Sem.run_pure, Result.andThen_ok, h2]
end

/-- a round, out of its walk -/
theorem yieldAt_of {P : Program} {f : FuncId} {l n : Nat} {s : LoopState} {p : Option Code} {e : Env} {ps : List Tmp} {x y : Code} {args : List Value} {w : World} {R : Value → World → Prop}
    (hl : LoopAt w l s p f n e ps x y) (hn : args.length = ps.length) (hps : (ps.zip args).all (fun p => decide (p.1 < n)) = true) (hok : stackOk n [.code x, .beginRound, .code y] = true)
    (h : Runs ⟨P, f, some l, n, R⟩ [.code x, .beginRound, .code y] (putPs e (ps.zip args)) [] w) : YieldAt P l args w R := by
  obtain ⟨tmps, db, hb, hsz, hrep⟩ := hl
  refine ⟨_, hb, by simpa using hn, fun c cs => ?_⟩
  simp only
  let b : Frame := { (default : Frame) with fn := f, kind := .normal, roundOf := some l }
  have hz : (ps.toArray.zip args.toArray) = (ps.zip args).toArray := by simp
  have hfr := fold_rep (ps.zip args) tmps e hsz hrep hps
  rw [hz]
  have hb0 : ∀ T : Array Value, Frame.round l f T x y .normal = b.atR { tmps := T, defers := [] } [.code x, .beginRound, .code y] := fun T => by
    simp [Frame.round, Frame.atR, b]
  rw [hb0, List.foldl_toArray]
  obtain ⟨v, w', m', hR, hst, hle⟩ := h hok { tmps := _, defers := [] } b (c :: cs) ⟨by simpa using hfr.1, fun t => by simpa using hfr.2 t⟩ rfl rfl rfl rfl (by simp)
  obtain ⟨c', cs', hc, rfl⟩ := hle
  cases hc
  exact ⟨v, w', hR, hst⟩

section
variable {C : Ctx} {k : List Item} {e : Env} {D : List Deferred} {w : World} {l : Nat}
theorem r_begin {p : Option Code} {f : FuncId} {n : Nat} {e0 : Env} {ps : List Tmp} {x y : Code} (hr : C.r = some l) (hl : LoopAt w l .ready p f n e0 ps x y)
    (h : ∀ w', w'.heap.size = w.heap.size → w.grownBy w' (some l) → LoopAt w' l .busy p f n e0 ps x y → Runs C k e D w') : Runs C (.beginRound :: k) e D w := by
  obtain ⟨tmps, db, hb, hsz, hrep⟩ := hl
  refine runs_step (w' := w.putObj l _) (fun hk => (stackOk_cons.1 hk).2) (fun a b cs _ _ hbr => stepR_beginRound (by rw [hbr, hr]) (run_beginRound hb rfl)) ?_
  exact h _ (by simp [World.putObj]) (grownBy_putObj _ _ _) ⟨tmps, db, putObj_self (Array.getElem?_eq_some_iff.1 hb).1, hsz, hrep⟩
theorem r_round_leave {s : LoopState} {p : Option Code} {f : FuncId} {n : Nat} {e0 : Env} {ps : List Tmp} {x y : Code} (jump : Option Code) (hr : C.r = some l) (hl : LoopAt w l s p f n e0 ps x y)
    (hstep : ∀ (a : Act) (b : Frame) (c : Frame) (cs : List Frame) (v : Value) (w' : World), b.roundOf = some l → b.kind = .normal → (Instr.endRound l jump).run C.P w = .ok v w' → step C.P (lone (b.atR a k) (c :: cs) w) = .next (lone (c.finish v) cs w'))
    (h : ∀ w', w'.heap.size = w.heap.size → w.grownBy w' (some l) → LoopAt w' l (if jump.isNone then .ready else .done) jump f n e0 ps x y → C.R (.bool jump.isNone) w') : Runs C k e D w := by
  obtain ⟨tmps, db, hb, hsz, hrep⟩ := hl
  intro hk a b cs ha hD hf hro hki hcs
  rw [hr] at hro
  have hcs := hcs (by rw [hr]; rfl)
  cases cs with
  | nil => exact absurd rfl hcs
  | cons c cs =>
    have hs := hstep a b c cs _ _ hro hki (run_endRound jump hb)
    refine ⟨_, _, _, h _ (by simp [World.putObj]) (grownBy_putObj _ _ _) ⟨tmps, db, putObj_self (Array.getElem?_eq_some_iff.1 hb).1, hsz, hrep⟩, .one hs, ?_⟩
    unfold Left
    rw [hr]
    exact ⟨c, cs, rfl, rfl⟩
theorem r_round_end {s : LoopState} {p : Option Code} {f : FuncId} {n : Nat} {e0 : Env} {ps : List Tmp} {x y : Code} (hr : C.r = some l) (hl : LoopAt w l s p f n e0 ps x y)
    (h : ∀ w', w'.heap.size = w.heap.size → w.grownBy w' (some l) → LoopAt w' l .ready none f n e0 ps x y → C.R (.bool true) w') : Runs C [] e D w :=
  r_round_leave none hr hl (fun _ _ _ _ _ _ hb hk hr => stepR_round_end hb hk hr) h
theorem r_round_ret {s : LoopState} {p : Option Code} {f : FuncId} {n : Nat} {e0 : Env} {ps : List Tmp} {x y : Code} (hr : C.r = some l) (hl : LoopAt w l s p f n e0 ps x y)
    (h : ∀ w', w'.heap.size = w.heap.size → w.grownBy w' (some l) → LoopAt w' l .done (some .ret) f n e0 ps x y → C.R (.bool false) w') : Runs C (.code .ret :: k) e D w :=
  r_round_leave (some .ret) hr hl (fun _ _ _ _ _ _ hb hk hr => stepR_round_ret hb hk hr) h

/-- the statement 'for .. := range g { .. }', outermost -/
theorem r_rangeFunc {g : Operand} {ps : List Tmp} {x y : Code} {f : FuncId} {fst cap : List Value} (hr : C.r = none) (hg : ev e g = .func (.func f) ⟨fst⟩ ⟨cap⟩) (hin : ∀ args w, (callFunc f args).run C.P w = .ok (.enter f args) w)
    (h : ∀ (l db : Nat) (w1 : World), Ext w w1 → w.heap.size ≤ l → w.heap.size ≤ db → db ≠ l → db < w1.heap.size → w1.heap[db]? = some (.deferred (some [])) → LoopAt w1 l .ready none C.f C.n e ps x y →
      Ret C.P f (fst ++ [.func (.yield l) ⟨[]⟩ ⟨[]⟩] ++ cap) w1 (fun _ w2 => ∃ s p, s ≠ .busy ∧ LoopAt w2 l s p C.f C.n e ps x y ∧ stackOk C.n ((p.map Item.code).toList) = true ∧
        ∀ w3, w3.heap.size = w2.heap.size → w2.grownBy w3 (some l) → Runs C ((p.map Item.code).toList ++ k) e (marked db :: D) w3)) : Runs C (.code (.rangeFunc g ps.toArray x y) :: k) e D w := by
  intro hk a b cs ha hD hf hro hki hcs
  rw [hr] at hro
  let L : Loop := { state := .ready, pending := none, fn := C.f, tmps := a.tmps, params := ps.toArray, assign := x, body := y, defers := w.heap.size }
  let w1 : World := (w.alloc (.deferred (some []))).alloc (.loop L)
  have he : (Instr.enterLoop b.fn a.tmps ps.toArray x y b.roundOf).run C.P w = .ok (w.heap.size + 1, [marked w.heap.size]) w1 := by
    rw [hro, hf]; exact run_enterLoop_outer _ _ _ _ _
  have hgv : a.eval g = .func (.func f) ⟨fst⟩ ⟨cap⟩ := by rw [ha.eval]; exact hg
  have hres : (resolve a.eval (rangeCall g (w.heap.size + 1)) 0).run C.P w1 = .ok (Deferred.mk (.fn (.func f) ⟨cap⟩) (⟨fst⟩ ++ #[.func (.yield (w.heap.size + 1)) #[] #[]])) w1 := by
    have hm : Array.map a.eval #[.const (Value.func (.yield (w.heap.size + 1)) #[] #[])] = #[Value.func (.yield (w.heap.size + 1)) #[] #[]] := by simp [Act.eval]
    simp only [resolve, rangeCall, hgv, Deferred.ofValue, Sem.run_bind, Sem.run_pure, Result.andThen_ok, hm]
  have hargs : ((⟨fst⟩ : Array Value) ++ #[Value.func (.yield (w.heap.size + 1)) #[] #[]]) ++ ⟨cap⟩ = (fst ++ [Value.func (.yield (w.heap.size + 1)) ⟨[]⟩ ⟨[]⟩] ++ cap).toArray := by apply Array.ext'; simp
  have hinv : (invoke (Target.fn (.func f) ⟨cap⟩) (⟨fst⟩ ++ #[.func (.yield (w.heap.size + 1)) #[] #[]])).run C.P w1 = .ok (.enter f (fst ++ [Value.func (.yield (w.heap.size + 1)) ⟨[]⟩ ⟨[]⟩] ++ cap).toArray) w1 := by
    simp only [invoke, hargs, hin]
  have hs := stepR_rangeFunc (b := b) (a := a) (k := k) (cs := cs) he hres hinv
  have hdb : w1.heap[w.heap.size]? = some (.deferred (some [])) := by
    have h1 := heap_alloc_new w (.deferred (some []))
    rw [← h1]
    exact Below.heap_alloc _ _ _ (by rw [World.size_alloc]; omega)
  have hlb : w1.heap[w.heap.size + 1]? = some (.loop L) := by
    have := heap_alloc_new (w.alloc (.deferred (some []))) (.loop L)
    rwa [World.size_alloc] at this
  have hE : Ext w w1 := ⟨rfl, rfl, rfl, by simp [w1, World.size_alloc]; omega, fun j hj _ => by
    show w1.heap[j]? = _
    rw [Below.heap_alloc _ _ _ (by rw [World.size_alloc]; omega), Below.heap_alloc _ _ _ hj]⟩
  obtain ⟨en, w2, fr, ⟨v, rfl, hRv⟩, hsteps, _, hleave⟩ := h (w.heap.size + 1) w.heap.size w1 hE (by omega) (by omega) (by omega) (by simp [w1, World.size_alloc]; omega) hdb ⟨a.tmps, w.heap.size, hlb, ha.1, ha.2⟩
    (b.atR { a with defers := [marked w.heap.size] ++ a.defers } (.inRangeFunc (w.heap.size + 1) :: k) :: cs)
  have hback := step_leave_returned (c := b.atR { a with defers := [marked w.heap.size] ++ a.defers } (.inRangeFunc (w.heap.size + 1) :: k)) (cs := cs) hleave
  rw [finish_atR_inRangeFunc] at hback
  obtain ⟨s, p, hsb, ⟨tmps, db, hb2, _, _⟩, hpk, hrun⟩ := hRv
  have hend := stepR_endRangeFunc (b := b) (a := { a with defers := [marked w.heap.size] ++ a.defers }) (k := k) (cs := cs) (run_endLoop (P := C.P) hb2 hsb)
  have hk' : stackOk C.n ((p.map Item.code).toList ++ k) = true := by
    rw [stackOk, List.all_append, Bool.and_eq_true]
    exact ⟨hpk, (stackOk_cons.1 hk).2⟩
  obtain ⟨u, w3, m', hR, hst, hl⟩ := hrun (w2.putObj (w.heap.size + 1) _) (by simp [World.putObj]) (grownBy_putObj _ _ _) hk' { a with defers := [marked w.heap.size] ++ a.defers } b cs ha (by simp [hD]) hf (by rw [hro, hr]) hki hcs
  exact ⟨u, w3, m', hR, .head hs (Steps.trans hsteps (.head hback (.head hend hst))), hl⟩
end
end Go.Gv
namespace Go.Gv
open Go Go.RowKit

theorem part_cell {P : Program} {w : World} {t : TypeId} {cs : Array Value} {off : Nat} {v : Value} (ha : ∀ w, (isAgg t).run P w = .ok false w) (hv : cs[off]? = some v) : (part t cs off).run P w = .ok v w := by
  simp [part, ha, hv]

section
variable {P : Program}
theorem run_equalIn_str {w : World} {d : Nat} {t : TypeId} {a b : List UInt8} (ht : P.underlying t = some .string) : (Op.equalIn (d + 1) t (vstr a) (vstr b)).run P w = .ok (decide (a = b)) w := by
  have : ((⟨⟨a⟩⟩ : ByteArray) == ⟨⟨b⟩⟩) = decide (a = b) := by
    rw [beq_toListBytes, toList_mk, toList_mk, beq_list]
  simp [Op.equalIn, run_underlying ht, this]

theorem run_equal_pair {w : World} {t st : TypeId} {f1 f2 : Field} {a b c d : List UInt8} (ht : P.underlying t = some (.struct #[f1, f2])) (h1 : f1.name ≠ "_" ∧ f1.type = st ∧ f1.offset = 0) (h2 : f2.name ≠ "_" ∧ f2.type = st ∧ f2.offset = 1)
    (hst : P.underlying st = some .string) (ha : ∀ w, (isAgg st).run P w = .ok false w) (hso : P.stoodInHeld t = false) :
    (Op.equal t (.agg ⟨[vstr a, vstr b]⟩) (.agg ⟨[vstr c, vstr d]⟩)).run P w = .ok (decide (a = c) && decide (b = d)) w := by
  obtain ⟨hn1, ht1, ho1⟩ := h1
  obtain ⟨hn2, ht2, ho2⟩ := h2
  have hp : ∀ x y : Value, (part st ⟨[x, y]⟩ 0).run P w = .ok x w := fun x y => part_cell ha rfl
  have hq : ∀ x y : Value, (part st ⟨[x, y]⟩ 1).run P w = .ok y w := fun x y => part_cell ha rfl
  have he : ∀ x y : List UInt8, (Op.equalIn 9999 st (vstr x) (vstr y)).run P w = .ok (decide (x = y)) w := fun x y => run_equalIn_str (d := 9998) hst
  unfold Op.equal Op.maxDepth Op.equalIn
  simp only [Sem.run_bind, run_underlying ht, Result.andThen_ok]
  have hpr : (program).run P w = .ok P w := rfl
  simp only [Sem.run_bind, hpr, Result.andThen_ok, hso, Bool.false_eq_true, if_false]
  by_cases h1 : a = c <;> by_cases h2 : b = d <;> simp [forIn, ForIn.forIn, hn1, hn2, ht1, ht2, ho1, ho2, hp, hq, he, h1, h2]

theorem run_checkKey_pair {w : World} {n : Nat} {em : Bool} {t st : TypeId} {f1 f2 : Field} {a b : List UInt8} (ht : P.underlying t = some (.struct #[f1, f2])) (h1 : f1.name ≠ "_" ∧ f1.type = st ∧ f1.offset = 0) (h2 : f2.name ≠ "_" ∧ f2.type = st ∧ f2.offset = 1)
    (hst : P.underlying st = some .string) (ha : ∀ w, (isAgg st).run P w = .ok false w) : (Instr.checkKey em (n + 2) t (.agg ⟨[vstr a, vstr b]⟩)).run P w = .ok () w := by
  obtain ⟨hn1, ht1, ho1⟩ := h1
  obtain ⟨hn2, ht2, ho2⟩ := h2
  have hp : ∀ x y : Value, (part st ⟨[x, y]⟩ 0).run P w = .ok x w := fun x y => part_cell ha rfl
  have hq : ∀ x y : Value, (part st ⟨[x, y]⟩ 1).run P w = .ok y w := fun x y => part_cell ha rfl
  have hc : ∀ x : List UInt8, (Instr.checkKey em (n + 1) st (vstr x)).run P w = .ok () w := fun x => by
    simp [Instr.checkKey, run_underlying hst]
  rw [Instr.checkKey]
  simp only [Sem.run_bind, run_underlying ht, Result.andThen_ok]
  simp only [List.forIn_toArray, List.forIn_cons, List.forIn_nil, Sem.run_bind, ht1, ht2, ho1, ho2, hn1, hn2, hp, hq, hc, ne_eq, not_false_eq_true, if_true, Result.andThen_ok, Sem.run_pure]

def MapAt (w : World) (m : Nat) (es : List MapEntry) (clock : Nat) : Prop := w.heap[m]? = some (.map es.toArray clock)
def Asks (P : Program) (kt : TypeId) (kv : Value) (es : List MapEntry) : Prop := ∀ e ∈ es, ∃ b, (∀ w, (Op.equal kt kv e.key).run P w = .ok b w) ∧ (b = true ↔ kv = e.key)

theorem find_asking {kt : TypeId} {kv : Value} : ∀ (es : List MapEntry) (i : Nat), Asks P kt kv es →
    ∃ r : Option (Nat × Value), (∀ w, (Instr.findAsking kt kv es i).run P w = .ok r w) ∧ (∀ j v, r = some (j, v) → i ≤ j ∧ ∃ e, es[j - i]? = some e ∧ e.key = kv ∧ e.val = v) ∧ (r = none → ∀ e ∈ es, e.key ≠ kv)
  | [], i, _ => ⟨none, (fun w => rfl), (fun j v h => by cases h), (fun _ e he => by simp at he)⟩
  | e :: es, i, h => by
    obtain ⟨b, hb, hbe⟩ := h e (by simp)
    obtain ⟨r, hr, h1, h2⟩ := find_asking es (i + 1) (fun x hx => h x (by simp [hx]))
    cases b with
    | true =>
      refine ⟨some (i, e.val), fun w => by simp [Instr.findAsking, hb], fun j v hj => ?_, fun h => by cases h⟩
      cases hj
      exact ⟨Nat.le_refl _, e, by simp, (hbe.1 rfl).symm, rfl⟩
    | false =>
      refine ⟨r, fun w => by simp [Instr.findAsking, hb, hr], fun j v hj => ?_, fun hn x hx => ?_⟩
      · obtain ⟨h3, x, h4, h5⟩ := h1 j v hj
        refine ⟨by omega, x, ?_, h5⟩
        have : j - i = (j - (i + 1)) + 1 := by omega
        rw [this]; exact h4
      · rcases List.mem_cons.1 hx with rfl | hx
        · intro he; exact absurd (hbe.2 he.symm) (by simp)
        · exact h2 hn x hx
theorem find_key {kt : TypeId} {kv : Value} {fs : Array Field} (hk : P.underlying kt = some (.struct fs)) (es : List MapEntry) (h : Asks P kt kv es) :
    ∃ r : Option (Nat × Value), (∀ w, (Instr.findKey kt kv es).run P w = .ok r w) ∧ (∀ j v, r = some (j, v) → ∃ e, es[j]? = some e ∧ e.key = kv ∧ e.val = v) ∧ (r = none → ∀ e ∈ es, e.key ≠ kv) := by
  obtain ⟨r, hr, h1, h2⟩ := find_asking es 0 h
  refine ⟨r, fun w => ?_, fun j v hj => by obtain ⟨_, e, h3⟩ := h1 j v hj; exact ⟨e, h3⟩, h2⟩
  cases es with
  | nil =>
    have := hr w
    simp [Instr.findAsking] at this
    simp [Instr.findKey, run_underlying hk, Instr.findNow, this]
  | cons e es =>
    have hn : Instr.findNow (.struct fs) kv (e :: es) 0 = none := by simp [Instr.findNow, Instr.sameNow]
    simp only [Instr.findKey, Sem.run_bind, run_underlying hk, Result.andThen_ok, hn, hr]

section
variable {ops : Array Oper} {e : Env} {w : World}
variable {d : Option Nat} {ty : TypeId} {pos : String} {af : Array Edge} {g : Option (Nat × Bool)}
theorem q_lookup {t kt el : TypeId} {fs : Array Field} {x y : Operand} {m clock : Nat} {es : List MapEntry} {kv z : Value} (ht : P.underlying t = some (.map kt el)) (hk : P.underlying kt = some (.struct fs)) (hz : ∀ w, (zeroValue el).run P w = .ok z w)
    (hx : ev e x = .map (some m)) (hy : ev e y = kv) (hm : MapAt w m es clock) (hck : ∀ em w, (Instr.checkKey em 10000 kt kv).run P w = .ok () w) (ha : Asks P kt kv es)
    (hw : wantedE ops e ⟨d, .lookup t x y true, ty, pos, af, g⟩ = true) :
    ∃ v ok, QuietAt P ops e w ⟨d, .lookup t x y true, ty, pos, af, g⟩ (.tuple ⟨[v, .bool ok]⟩) ∧ (ok = true → ∃ en ∈ es, en.key = kv ∧ en.val = v) ∧ (ok = false → v = z ∧ ∀ en ∈ es, en.key ≠ kv) := by
  obtain ⟨r, hr, h1, h2⟩ := find_key hk es ha
  have hg : (getObj m).run P w = .ok (.map es.toArray clock) w := by
    have hm' : w.heap[m]? = some (.map es.toArray clock) := hm
    simp [getObj, Sem.run, hm']
  cases r with
  | none =>
    refine ⟨z, false, .inl ⟨hw, rfl, ?_⟩, (fun h => by cases h), fun _ => ⟨rfl, h2 rfl⟩⟩
    simp [execOp, Instr.lookup, run_underlying ht, hx, hy, hg, hck, hr, hz]
  | some p =>
    obtain ⟨j, v⟩ := p
    obtain ⟨en, h3, h4, h5⟩ := h1 j v rfl
    refine ⟨v, true, .inl ⟨hw, rfl, ?_⟩, (fun _ => ⟨en, List.mem_of_getElem? h3, h4, h5⟩), fun h => by cases h⟩
    simp [execOp, Instr.lookup, run_underlying ht, hx, hy, hg, hck, hr]

theorem o_makeMap {K : Value → World → Prop} {t : TypeId} (hw : wantedE ops e ⟨d, .makeMap t none, ty, pos, af, g⟩ = true)
    (h : ∀ m w', w.heap.size ≤ m → m < w'.heap.size → MapAt w' m [] 0 → Ext w w' → K (.map (some m)) w') : EffAt P ops e w ⟨d, .makeMap t none, ty, pos, af, g⟩ K := by
  have hr : (Instr.makeMap t none).run P w = .ok (.map (some w.heap.size)) (w.alloc (.map #[] 0)) := rfl
  exact e_value hw rfl (by simp [execOp, hr]) (h w.heap.size _ (Nat.le_refl _) (by simp [World.size_alloc]) (heap_alloc_new w _) ⟨rfl, rfl, rfl, by simp [World.size_alloc], fun k hk _ => Below.heap_alloc w _ k hk⟩)

theorem o_mapUpdate {K : Value → World → Prop} {t kt el : TypeId} {fs : Array Field} {x y z : Operand} {m clock : Nat} {es : List MapEntry} {kv v : Value} (ht : P.underlying t = some (.map kt el)) (hk : P.underlying kt = some (.struct fs))
    (hx : ev e x = .map (some m)) (hy : ev e y = kv) (hv : ev e z = v) (hm : MapAt w m es clock) (hck : ∀ em w, (Instr.checkKey em 10000 kt kv).run P w = .ok () w) (ha : Asks P kt kv es) (hsb : Instr.sameBits 10000 kv kv = true)
    (hw : wantedE ops e ⟨d, .mapUpdate t x y z, ty, pos, af, g⟩ = true)
    (h : ∀ es' clock' w', w'.heap.size = w.heap.size → MapAt w' m es' clock' → w.grownBy w' (some m) → (∀ en ∈ es', (en ∈ es) ∨ (en.key = kv ∧ en.val = v)) → K undef w') :
    EffAt P ops e w ⟨d, .mapUpdate t x y z, ty, pos, af, g⟩ K := by
  obtain ⟨r, hr, h1, h2⟩ := find_key hk es ha
  have hm' : w.heap[m]? = some (.map es.toArray clock) := hm
  have hlt : m < w.heap.size := (Array.getElem?_eq_some_iff.1 hm').1
  have hg : (getObj m).run P w = .ok (.map es.toArray clock) w := by simp [getObj, Sem.run, hm']
  have hs : ∀ o, (setObj m o).run P w = .ok () (w.putObj m o) := fun o => by simp [setObj, Sem.run, hm', World.putObj]
  cases r with
  | none =>
    refine e_done (w' := w.putObj m (.map (es.toArray.push { key := kv, val := v, born := clock }) (clock + 1))) hw rfl (by simp [execOp, Instr.mapUpdate, run_underlying ht, hx, hy, hv, hg, hck, hr, hs]) ?_
    refine h (es ++ [{ key := kv, val := v, born := clock }]) (clock + 1) _ (by simp [World.putObj]) ?_ (grownBy_putObj _ _ _) ?_
    · unfold MapAt; rw [putObj_self hlt]; simp
    · intro en hen
      rcases List.mem_append.1 hen with hen | hen
      · exact .inl hen
      · right; have : en = { key := kv, val := v, born := clock } := by simpa using hen
        rw [this]; exact ⟨rfl, rfl⟩
  | some p =>
    obtain ⟨j, v0⟩ := p
    obtain ⟨en, h3, h4, h5⟩ := h1 j v0 rfl
    have hj : (es.toArray[j]?).map (·.key) = some kv := by rw [List.getElem?_toArray, h3]; simp [h4]
    refine e_done (w' := w.putObj m (.map (es.toArray.modify j fun e => { e with key := kv, val := v }) clock)) hw rfl (by
      simp [execOp, Instr.mapUpdate, run_underlying ht, hx, hy, hv, hg, hck, hr, hs, Instr.keyThatStays, h3, h4, hsb]) ?_
    refine h (es.modify j fun e => { e with key := kv, val := v }) clock _ (by simp [World.putObj]) ?_ (grownBy_putObj _ _ _) ?_
    · unfold MapAt; rw [putObj_self hlt]; simp
    · intro e2 hen
      obtain ⟨i, hi, rfl⟩ := List.mem_iff_getElem.1 hen
      rw [List.getElem_modify]
      split
      · exact .inr ⟨rfl, rfl⟩
      · exact .inl (List.getElem_mem _)
end
theorem sameBits_pair (a b : List UInt8) : Instr.sameBits 10000 (.agg ⟨[vstr a, vstr b]⟩) (.agg ⟨[vstr a, vstr b]⟩) = true := by
  have : ∀ (n : Nat) (x : List UInt8), Instr.sameBits n (vstr x) (vstr x) = true := fun n x => by
    cases n <;> simp [Instr.sameBits, beq_toListBytes]
  simp [Instr.sameBits, beq_toListBytes]
end
end Go.Gv
namespace Go.Gv
open Go Go.RowKit

/-- what lies at N and above, as far as it is there, is kept -/
structure Fr (N : Nat) (w w' : World) : Prop where
  os : w'.os = w.os
  tape : w'.tape = w.tape
  output : w'.output = w.output
  size : w.heap.size ≤ w'.heap.size
  keep : ∀ k, N ≤ k → k < w.heap.size → w'.heap[k]? = w.heap[k]?
theorem Fr.refl (N : Nat) (w : World) : Fr N w w := ⟨rfl, rfl, rfl, Nat.le_refl _, fun _ _ _ => rfl⟩
theorem Fr.trans {N : Nat} {a b c : World} (h : Fr N a b) (h' : Fr N b c) : Fr N a c :=
  ⟨h'.os.trans h.os, h'.tape.trans h.tape, h'.output.trans h.output, Nat.le_trans h.size h'.size, fun k hk hl => (h'.keep k hk (Nat.lt_of_lt_of_le hl h.size)).trans (h.keep k hk hl)⟩
theorem Fr.of_ext {N : Nat} {w w' : World} (h : Ext w w') : Fr N w w' := ⟨h.os, h.tape, h.output, h.size, fun k _ hl => h.block k hl (by simp)⟩
theorem Fr.mono {N N' : Nat} {w w' : World} (h : Fr N w w') (hn : N ≤ N') : Fr N' w w' := ⟨h.os, h.tape, h.output, h.size, fun k hk hl => h.keep k (Nat.le_trans hn hk) hl⟩
theorem Blk.keep {w w' : World} {b : Nat} {cs : List Value} (h : Blk w b cs) (hk : w'.heap[b]? = w.heap[b]?) : Blk w' b cs := by
  unfold Blk at *
  first | exact hk.trans h | (obtain ⟨x, hx⟩ := h; exact ⟨x, hk.trans hx⟩) | simpa [hk] using h
theorem Blk.fr {w w' : World} {N b : Nat} {cs : List Value} (h : Blk w b cs) (hF : Fr N w w') (hb : N ≤ b) : Blk w' b cs := h.keep (hF.keep b hb h.lt)
def FrB (N b : Nat) (cs : List Value) (w w' : World) : Prop := Fr N w w' ∧ (Blk w b cs → Blk w' b cs)
theorem FrB.refl' (N b : Nat) (cs : List Value) : ∀ w, FrB N b cs w w := fun w => ⟨Fr.refl N w, fun h => h⟩
theorem FrB.trans' (N b : Nat) (cs : List Value) : ∀ x y z, FrB N b cs x y → FrB N b cs y z → FrB N b cs x z := fun _ _ _ h h' => ⟨h.1.trans h'.1, fun hb => h'.2 (h.2 hb)⟩
theorem below_ext_of {N : Nat} {w w' : World} (h : Ext w w') (hN : N ≤ w.heap.size) : Below N w w' := h.below.mono hN
theorem below_upd_of {N j : Nat} {w w' : World} (h : w.grownBy w' (some j)) (hj : N ≤ j) (hN : N ≤ w.heap.size) : Below N w w' := ⟨h.os, h.tape, h.output, h.size, fun k hk => h.block k (by omega) (by simp; omega)⟩
theorem MapAt.keep {w w' : World} {m : Nat} {es : List MapEntry} {clock : Nat} (h : MapAt w m es clock) (hk : w'.heap[m]? = w.heap[m]?) : MapAt w' m es clock := hk.trans h
theorem MapAt.lt {w : World} {m : Nat} {es : List MapEntry} {clock : Nat} (h : MapAt w m es clock) : m < w.heap.size := (Array.getElem?_eq_some_iff.1 (show w.heap[m]? = _ from h)).1
theorem grown_trans {a b c : World} {x : Option Nat} (h : a.grownBy b x) (h' : b.grownBy c x) : a.grownBy c x :=
  ⟨h'.os.trans h.os, h'.tape.trans h.tape, h'.output.trans h.output, Nat.le_trans h.size h'.size, fun k hk hn => (h'.block k (Nat.lt_of_lt_of_le hk h.size) hn).trans (h.block k hk hn)⟩
theorem gm_ext {a b : World} {m : Nat} (h : Ext a b) : a.grownBy b (some m) := ⟨h.os, h.tape, h.output, h.size, fun k hk _ => h.block k hk (by simp)⟩
theorem gm_refl (m : Nat) : ∀ w : World, w.grownBy w (some m) := fun w => gm_ext (Ext.refl w)
theorem gm_trans (m : Nat) : ∀ a b c : World, a.grownBy b (some m) → b.grownBy c (some m) → a.grownBy c (some m) := fun _ _ _ => grown_trans
theorem gm_upd {a b c : World} {m j : Nat} (h : a.grownBy b (some m)) (h' : b.grownBy c (some j)) (hj : j = m ∨ a.heap.size ≤ j) : a.grownBy c (some m) :=
  ⟨h'.os.trans h.os, h'.tape.trans h.tape, h'.output.trans h.output, Nat.le_trans h.size h'.size, fun k hk hn => (h'.block k (Nat.lt_of_lt_of_le hk h.size) (fun he => by
    cases he; rcases hj with rfl | hj
    · exact hn rfl
    · omega)).trans (h.block k hk hn)⟩
theorem gm_below {a b c : World} {m N : Nat} (h : a.grownBy b (some m)) (h' : Below N b c) (hN : a.heap.size ≤ N) : a.grownBy c (some m) :=
  ⟨h'.os.trans h.os, h'.tape.trans h.tape, h'.output.trans h.output, Nat.le_trans h.size h'.size, fun k hk hn => (h'.block k (by omega)).trans (h.block k hk hn)⟩
theorem Fr.step {N j : Nat} {a b c : World} (h : Fr N a b) (h' : b.grownBy c (some j)) (hj : j < N ∨ a.heap.size ≤ j) : Fr N a c :=
  ⟨h'.os.trans h.os, h'.tape.trans h.tape, h'.output.trans h.output, Nat.le_trans h.size h'.size, fun k hk hl => (h'.block k (Nat.lt_of_lt_of_le hl h.size) (fun he => by cases he; omega)).trans (h.keep k hk hl)⟩
theorem heap_lt {w : World} {d : Nat} {o : Obj} (h : w.heap[d]? = some o) : d < w.heap.size := (Array.getElem?_eq_some_iff.1 h).1
theorem unw_one {w : World} {d : Nat} (h : w.heap[d]? = some (.deferred (some []))) : ∃ w', Unw w [marked d] w' ∧ w'.heap.size = w.heap.size ∧ w.grownBy w' (some d) :=
  ⟨_, .cons h (.nil _), by simp, rfl, rfl, rfl, by simp, fun k _ hn => by
    simp only
    rw [Array.getElem?_setIfInBounds_ne (fun he => hn (by rw [he]))]⟩
theorem r_rangeFunc' {C : Ctx} {k : List Item} {e : Env} {D : List Deferred} {w : World} {g : Operand} {ps : List Tmp} {x y : Code} {f : FuncId} {fst cap : List Value} (hr : C.r = none) (hg : ev e g = .func (.func f) ⟨fst⟩ ⟨cap⟩) (hin : ∀ args w, (callFunc f args).run C.P w = .ok (.enter f args) w)
    (h : ∀ (l db : Nat) (w1 : World) (Lp : World → LoopState → Option Code → Prop), (∀ w s p, Lp w s p ↔ LoopAt w l s p C.f C.n e ps x y) → (∀ w w' s p, Lp w s p → w'.heap[l]? = w.heap[l]? → Lp w' s p) → Ext w w1 → w.heap.size ≤ l → w.heap.size ≤ db → db ≠ l → db < w1.heap.size → l < w1.heap.size →
      w1.heap[db]? = some (.deferred (some [])) → Lp w1 .ready none →
      Ret C.P f (fst ++ [.func (.yield l) ⟨[]⟩ ⟨[]⟩] ++ cap) w1 (fun _ w2 => ∃ s p, s ≠ .busy ∧ Lp w2 s p ∧ stackOk C.n ((p.map Item.code).toList) = true ∧
        ∀ w3, w3.heap.size = w2.heap.size → w2.grownBy w3 (some l) → Runs C ((p.map Item.code).toList ++ k) e (marked db :: D) w3)) : Runs C (.code (.rangeFunc g ps.toArray x y) :: k) e D w :=
  r_rangeFunc hr hg hin fun l db w1 hE h1 h2 h3 h4 h5 h6 => h l db w1 (fun w s p => LoopAt w l s p C.f C.n e ps x y) (fun _ _ _ => Iff.rfl) (fun _ _ _ _ h hk => h.keep hk) hE h1 h2 h3 h4 h6.lt h5 h6
theorem ptr0 (b n : Nat) : ptr b (0 + n) = ptr b n := by rw [Nat.zero_add]
theorem imap {l : List Int} {i : Nat} (h : i < l.length) : (l.map vint)[i]? = some (vint (l.getD i 0)) := by
  rw [List.getElem?_map, List.getElem?_eq_getElem h, List.getD_eq_getElem?_getD, List.getElem?_eq_getElem h]; rfl
theorem imap_set (l : List Int) (i : Nat) (x : Int) : (l.map vint).set i (vint x) = (l.set i x).map vint := List.map_set.symm
/-- a loop whose marks grow -/
theorem r_roundsD {C : Ctx} {k : List Item} {e : Env} {D : List Deferred} {w : World} {α : Type} (I : α → Env → List Deferred → World → Prop) (mu : α → Nat) {c : Code} (x : α) (h0 : I x e D w)
    (round : ∀ x e D w, I x e D w → (∀ y e' D' w', I y e' D' w' → mu y < mu x → Runs C (.inLoop c :: k) e' D' w') → Runs C (.code c :: .inLoop c :: k) e D w) :
    Runs C (.code (.loop c) :: k) e D w := by
  have key : ∀ j x e D w, mu x = j → I x e D w → Runs C (.code c :: .inLoop c :: k) e D w := by
    intro j
    induction j using Nat.strongRecOn with
    | _ j ih =>
      intro x e D w hj hI
      refine round x e D w hI fun y e' D' w' hI' hlt => r_inLoop ?_
      exact ih (mu y) (by omega) y e' D' w' rfl hI'
  exact r_loop (key _ x e D w rfl h0)
/-- a statement whose ways go on alike: what follows is proved once -/
theorem r_ifj {C : Ctx} {k : List Item} {e : Env} {D : List Deferred} {w : World} {α : Type} (I : α → Env → World → Prop) {x z : Code} (h2 : ∀ x e w, I x e w → Runs C (.code z :: k) e D w)
    (h : (∀ x e w, I x e w → Runs C (.code z :: k) e D w) → Runs C (.code x :: .code z :: k) e D w) : Runs C (.code x :: .code z :: k) e D w := h h2
theorem l_lookup {C : Ctx} {ops : Array Oper} {rest : List Oper} {k : List Item} {e : Env} {D : List Deferred} {w : World} {d : Option Nat} {ty : TypeId} {pos : String} {af : Array Edge} {g : Option (Nat × Bool)}
    {t kt el : TypeId} {fs : Array Field} {x y : Operand} {m clock : Nat} {es : List MapEntry} {kv z : Value} (ht : C.P.underlying t = some (.map kt el)) (hk : C.P.underlying kt = some (.struct fs)) (hz : ∀ w, (zeroValue el).run C.P w = .ok z w)
    (hx : ev e x = .map (some m)) (hy : ev e y = kv) (hm : MapAt w m es clock) (hck : ∀ em w, (Instr.checkKey em 10000 kt kv).run C.P w = .ok () w) (ha : Asks C.P kt kv es)
    (hw : wantedE ops e ⟨d, .lookup t x y true, ty, pos, af, g⟩ = true)
    (h : ∀ v ok, (ok = true → ∃ en ∈ es, en.key = kv ∧ en.val = v) → (ok = false → v = z ∧ ∀ en ∈ es, en.key ≠ kv) → RunsL C ops rest k (updo e d (.tuple ⟨[v, .bool ok]⟩)) D w) :
    RunsL C ops (⟨d, .lookup t x y true, ty, pos, af, g⟩ :: rest) k e D w := by
  obtain ⟨v, ok, hq, h1, h2⟩ := q_lookup (d := d) (ty := ty) (pos := pos) (af := af) (g := g) ht hk hz hx hy hm hck ha hw
  exact l_q hq (h v ok h1 h2)
end Go.Gv
namespace Go.Gv
open Go Go.RowKit
section
variable {P : Program}
theorem run_eqItems_ints {d : Nat} {e : TypeId} {kd : IntKind} (hu : P.underlying e = some (.int kd)) (ha : ∀ w, (isAgg e).run P w = .ok false w) (xs ys : List Int) (w : World) : ∀ (is : List Nat), (∀ i ∈ is, i < xs.length ∧ i < ys.length) →
    (Op.eqItems (d + 1) e 1 ⟨xs.map vint⟩ ⟨ys.map vint⟩ is).run P w = .ok (is.all (fun i => decide (xs.getD i 0 = ys.getD i 0))) w
  | [], _ => by simp [Op.eqItems]
  | i :: is, h => by
    have hi := h i (by simp)
    have hx : (part e ⟨xs.map vint⟩ (i * 1)).run P w = .ok (vint (xs.getD i 0)) w := part_cell ha (by rw [Nat.mul_one]; simpa using imap hi.1)
    have hy : (part e ⟨ys.map vint⟩ (i * 1)).run P w = .ok (vint (ys.getD i 0)) w := part_cell ha (by rw [Nat.mul_one]; simpa using imap hi.2)
    have he : (Op.equalIn (d + 1) e (vint (xs.getD i 0)) (vint (ys.getD i 0))).run P w = .ok (decide (xs.getD i 0 = ys.getD i 0)) w := by
      simp [Op.equalIn, run_underlying hu]
      exact rfl
    have ih := run_eqItems_ints (d := d) hu ha xs ys w is (fun j hj => h j (by simp [hj]))
    simp only [Op.eqItems, Sem.run_bind, hx, hy, he, Result.andThen_ok, List.all_cons]
    by_cases hq : xs.getD i 0 = ys.getD i 0
    · simp only [hq, decide_true, Bool.not_true, Bool.false_eq_true, if_false, ih, Bool.true_and]
    · have hq' : decide (xs.getD i 0 = ys.getD i 0) = false := decide_eq_false hq
      simp only [hq', Bool.not_false, if_true, Sem.run_pure, Bool.false_and]
theorem run_equal_ints {d : Nat} {t e : TypeId} {n : Nat} {i : TypeInfo} {kd : IntKind} (ht : P.underlying t = some (.array n e)) (hi : P.info? e = some i) (hc : P.cellsOf e = 1) (hu : P.underlying e = some (.int kd)) (ha : ∀ w, (isAgg e).run P w = .ok false w)
    (xs ys : List Int) (hx : xs.length = n) (hy : ys.length = n) (w : World) : (Op.equalIn (d + 1 + 1) t (.agg ⟨xs.map vint⟩) (.agg ⟨ys.map vint⟩)).run P w = .ok (decide (xs = ys)) w := by
  rw [run_equalIn_array w (d + 1) _ _ ht hi, hc, run_eqItems_ints hu ha xs ys w (List.range n) (fun j hj => by have := List.mem_range.1 hj; omega)]
  congr 1
  rw [Bool.eq_iff_iff, decide_eq_true_eq, List.all_eq_true]
  constructor
  · intro h
    exact ext_getD (d := 0) (by omega) (fun j hj => of_decide_eq_true (h j (List.mem_range.2 (by omega))))
  · intro h j _; rw [h]; exact decide_eq_true rfl
section
variable {ops : Array Oper} {e : Env} {w : World}
variable {d : Option Nat} {ty : TypeId} {pos : String} {af : Array Edge} {g : Option (Nat × Bool)}
theorem q_eql_ints {t yt el : TypeId} {x y : Operand} {n : Nat} {i : TypeInfo} {kd : IntKind} {xs ys : List Int} (ht : P.underlying t = some (.array n el)) (hi : P.info? el = some i) (hc : P.cellsOf el = 1) (hu : P.underlying el = some (.int kd)) (ha : ∀ w, (isAgg el).run P w = .ok false w)
    (hm : P.eqGuardType P.depth t = false) (hx : ev e x = .agg ⟨xs.map vint⟩) (hy : ev e y = .agg ⟨ys.map vint⟩) (hxl : xs.length = n) (hyl : ys.length = n)
    (hw : wantedE ops e ⟨d, .binOp .eql t x y yt, ty, pos, af, g⟩ = true) : QuietAt P ops e w ⟨d, .binOp .eql t x y yt, ty, pos, af, g⟩ (.bool (decide (xs = ys))) := by
  refine .inl ⟨hw, rfl, ?_⟩
  have h := run_equal_ints (P := P) (d := 9998) ht hi hc hu ha xs ys hxl hyl w
  simp only [execOp, hx, hy, Sem.run_bind, run_eqGuard_agg w _ _ _ _ _ _ hm, Result.andThen_ok, run_eql_struct]
  rw [h]; rfl
theorem q_eql_ints' {t yt el : TypeId} {x y : Operand} {n : Nat} {kd : IntKind} {xs ys : List Int} (ht : P.underlying t = some (.array n el)) (hi : (P.info? el).isSome = true) (hc : P.cellsOf el = 1) (hu : P.underlying el = some (.int kd)) (ha : ∀ w, (isAgg el).run P w = .ok false w)
    (hm : P.eqGuardType P.depth t = false) (hx : ev e x = .agg ⟨xs.map vint⟩) (hy : ev e y = .agg ⟨ys.map vint⟩) (hxl : xs.length = n) (hyl : ys.length = n)
    (hw : wantedE ops e ⟨d, .binOp .eql t x y yt, ty, pos, af, g⟩ = true) : QuietAt P ops e w ⟨d, .binOp .eql t x y yt, ty, pos, af, g⟩ (.bool (decide (xs = ys))) := by
  obtain ⟨i, hi⟩ := Option.isSome_iff_exists.1 hi
  exact q_eql_ints ht hi hc hu ha hm hx hy hxl hyl hw
theorem q_slice_arr_hi {t el : TypeId} {x z : Operand} {n b : Nat} {hi : Int} (ht : P.underlying t = some (.array n el)) (hsz : ∀ w, (sizeOf el).run P w = .ok 1 w)
    (hx : ev e x = ptr b 0) (hz : ev e z = vint hi) (hr : 0 ≤ hi ∧ hi ≤ n) (hn : n ≠ 0)
    (hw : wantedE ops e ⟨d, .slice t x none (some z) none, ty, pos, af, g⟩ = true) : QuietAt P ops e w ⟨d, .slice t x none (some z) none, ty, pos, af, g⟩ (.slice (some ⟨b, 0, none⟩) hi.toNat n) := by
  refine .inl ⟨hw, rfl, ?_⟩
  simp [execOp, hx, hz, Instr.sliceAt, Instr.slice, Instr.sliceBounds, Instr.sliceBound, asIntOf, run_underlying ht, hsz, hr, Instr.sureAddr, hn, Addr.add]
end
end
end Go.Gv
namespace Go.Gv
open Go Go.RowKit

/-- all that was there is kept but the blocks in S -/
structure FrS (S : Nat → Prop) (w w' : World) : Prop where
  os : w'.os = w.os
  tape : w'.tape = w.tape
  output : w'.output = w.output
  size : w.heap.size ≤ w'.heap.size
  keep : ∀ k, k < w.heap.size → ¬ S k → w'.heap[k]? = w.heap[k]?
theorem FrS.refl (S : Nat → Prop) (w : World) : FrS S w w := ⟨rfl, rfl, rfl, Nat.le_refl _, fun _ _ _ => rfl⟩
theorem FrS.trans {S S' : Nat → Prop} {a b c : World} (h : FrS S a b) (h' : FrS S' b c) (hs : ∀ k, k < a.heap.size → S' k → S k) : FrS S a c :=
  ⟨h'.os.trans h.os, h'.tape.trans h.tape, h'.output.trans h.output, Nat.le_trans h.size h'.size, fun k hk hn => (h'.keep k (Nat.lt_of_lt_of_le hk h.size) (fun h2 => hn (hs k hk h2))).trans (h.keep k hk hn)⟩
theorem FrS.of_ext (S : Nat → Prop) {w w' : World} (h : Ext w w') : FrS S w w' := ⟨h.os, h.tape, h.output, h.size, fun k hk _ => h.block k hk (by simp)⟩
theorem FrS.of_grown {S : Nat → Prop} {w w' : World} {row : Option Nat} (h : w.grownBy w' row) (hs : ∀ k, row = some k → S k) : FrS S w w' :=
  ⟨h.os, h.tape, h.output, h.size, fun k hk hn => h.block k hk (fun he => hn (hs k he.symm))⟩
theorem FrS.ext {S : Nat → Prop} {a b c : World} (h : FrS S a b) (h' : Ext b c) : FrS S a c := h.trans (.of_ext S h') (fun _ _ h => h)
theorem FrS.grown {S : Nat → Prop} {a b c : World} {row : Option Nat} (h : FrS S a b) (h' : b.grownBy c row) (hs : ∀ k, row = some k → k < a.heap.size → S k) : FrS S a c :=
  h.trans (S' := fun k => row = some k) (.of_grown h' (fun _ h => h)) (fun k hk hr => hs k hr hk)
theorem FrS.below {S : Nat → Prop} {N : Nat} {w0 a b : World} (h : FrS S a b) (hB : Below N w0 a) (hN : N ≤ a.heap.size) (hs : ∀ k, S k → N ≤ k) : Below N w0 b :=
  ⟨h.os.trans hB.os, h.tape.trans hB.tape, h.output.trans hB.output, Nat.le_trans hB.size h.size, fun k hk => (h.keep k (by omega) (fun h2 => by have := hs k h2; omega)).trans (hB.block k hk)⟩
theorem Blk.frS {S : Nat → Prop} {w w' : World} {b : Nat} {cs : List Value} (h : Blk w b cs) (hF : FrS S w w') (hb : ¬ S b) : Blk w' b cs := h.keep (hF.keep b h.lt hb)
theorem own_keepB {w w' : World} {base e size n : Nat} {v : Value} {xs : List Value} (h : w.ownsRow base e size v n xs) (hk : ∀ g, v.ownBlock = some g → w'.heap[g]? = w.heap[g]?) : w'.ownsRow base e size v n xs := by
  obtain ⟨h1, h2⟩ := h
  refine ⟨h1, h2.imp id ?_⟩
  rintro ⟨g, cap, cur, rfl, h4, h5, h6⟩
  exact ⟨g, cap, cur, rfl, h4, (hk g rfl).trans h5, h6⟩
theorem own_frS {S : Nat → Prop} {w w' : World} {base e size n : Nat} {v : Value} {xs : List Value} (h : w.ownsRow base e size v n xs) (hF : FrS S w w') (hb : ∀ g, v.ownBlock = some g → ¬ S g) : w'.ownsRow base e size v n xs :=
  own_keepB h fun g hg => hF.keep g (h.lt g hg).2 (hb g hg)
theorem own_block_ge {w : World} {base e size n : Nat} {v : Value} {xs : List Value} (h : w.ownsRow base e size v n xs) {g : Nat} (hg : v.ownBlock = some g) : base ≤ g := by
  rcases h.2 with ⟨rfl, _⟩ | ⟨g', cap, cur, rfl, h4, _⟩
  · cases hg
  · cases hg; exact h4

section
variable {P : Program} {ops : Array Oper} {e : Env} {w : World}
variable {d : Option Nat} {ty : TypeId} {pos : String} {af : Array Edge} {g : Option (Nat × Bool)}
/-- s == nil -/
theorem q_eql_nil {t el yt : TypeId} {x y : Operand} {a : Option Addr} {n c n' c' : Nat} (ht : P.underlying t = some (.slice el)) (hx : ev e x = .slice a n c) (hy : ev e y = .slice none n' c')
    (hw : wantedE ops e ⟨d, .binOp .eql t x y yt, ty, pos, af, g⟩ = true) : QuietAt P ops e w ⟨d, .binOp .eql t x y yt, ty, pos, af, g⟩ (.bool a.isNone) :=
  .inl ⟨hw, rfl, (by simp [execOp, hx, hy, eqGuard, Lib.run_eql_slice_nil w t el a n c n' c' ht])⟩
end
theorem own_updlt {w w' : World} {base e size n b : Nat} {v : Value} {xs : List Value} (h : w.ownsRow base e size v n xs) (hg : w.grownBy w' (some b)) (hb : b < base) : w'.ownsRow base e size v n xs :=
  own_keepB h fun g hg' => hg.block g (h.lt g hg').2 (fun he => by have := own_block_ge h hg'; cases he; omega)
theorem grown_of_ext {a b : World} (row : Option Nat) (h : Ext a b) : a.grownBy b row := ⟨h.os, h.tape, h.output, h.size, fun k hk _ => h.block k hk (by simp)⟩
theorem OwnsI.frS {S : Nat → Prop} {w w' : World} {B el : Nat} {l : List SV} (h : OwnsI w B el l) (hF : FrS S w w') (hb : ∀ s ∈ l, ∀ g, s.enc.ownBlock = some g → ¬ S g) : OwnsI w' B el l :=
  fun s hs => own_frS (h s hs) hF (hb s hs)
theorem OwnsI.append {w : World} {B el : Nat} {l l' : List SV} (h : OwnsI w B el l) (h' : OwnsI w B el l') : OwnsI w B el (l ++ l') := fun s hs => by
  rcases List.mem_append.1 hs with h1 | h1
  · exact h s h1
  · exact h' s h1
theorem OwnsI.ne {w : World} {B el base' e' size' n' : Nat} {l : List SV} {v' : Value} {xs' : List Value} (h : OwnsI w B el l) (h' : w.ownsRow base' e' size' v' n' xs') (hne : el ≠ e') : ∀ s ∈ l, ∀ g, s.enc.ownBlock = some g → v'.ownBlock ≠ some g := by
  intro s hs g hg he
  rcases own_other (h s hs) h' hne with h1 | h1
  · rw [hg] at h1; cases h1
  · exact h1 (hg.trans he.symm)
end Go.Gv
namespace Go.Gv
open Go Go.RowKit

def Marks (B : Nat) (D : List Deferred) (w : World) : Prop := ∃ ds : List Nat, D = ds.map marked ∧ ds.Nodup ∧ ∀ d ∈ ds, B ≤ d ∧ w.heap[d]? = some (.deferred (some []))
theorem Marks.nil (B : Nat) (w : World) : Marks B [] w := ⟨[], rfl, List.nodup_nil, fun _ h => by simp at h⟩
theorem Marks.keep {B : Nat} {D : List Deferred} {w w' : World} (h : Marks B D w) (hk : ∀ d : Nat, w.heap[d]? = some (Obj.deferred (some [])) → w'.heap[d]? = w.heap[d]?) : Marks B D w' := by
  obtain ⟨ds, h1, h2, h3⟩ := h
  exact ⟨ds, h1, h2, fun d hd => ⟨(h3 d hd).1, (hk d (h3 d hd).2).trans (h3 d hd).2⟩⟩
theorem Marks.ext {B : Nat} {D : List Deferred} {w w' : World} (h : Marks B D w) (hg : Ext w w') : Marks B D w' := h.keep fun d hd => hg.block d (heap_lt hd) (by simp)
theorem Marks.updO {B b : Nat} {D : List Deferred} {w w' : World} (h : Marks B D w) (hg : w.grownBy w' (some b)) {o : Obj} (ho : w.heap[b]? = some o) (hn : ∀ x, o ≠ Obj.deferred x) : Marks B D w' :=
  h.keep fun d hd => hg.block d (heap_lt hd) (fun he => by cases he; rw [ho] at hd; cases hd; exact hn _ rfl)
theorem Marks.upd {B b : Nat} {D : List Deferred} {w w' : World} {cs : List Value} (h : Marks B D w) (hg : w.grownBy w' (some b)) (hb : Blk w b cs) : Marks B D w' := by
  obtain ⟨T, hb⟩ := hb
  exact h.updO hg hb (fun x hx => by cases hx)
theorem Marks.updM {B m clock : Nat} {es : List MapEntry} {D : List Deferred} {w w' : World} (h : Marks B D w) (hg : w.grownBy w' (some m)) (hb : MapAt w m es clock) : Marks B D w' :=
  h.updO hg (show w.heap[m]? = _ from hb) (fun x hx => by cases hx)
theorem Marks.updL {B l n : Nat} {D : List Deferred} {w w' : World} {s : LoopState} {p : Option Code} {f : FuncId} {e : Env} {ps : List Tmp} {x y : Code} (h : Marks B D w) (hg : w.grownBy w' (some l)) (hb : LoopAt w l s p f n e ps x y) : Marks B D w' := by
  obtain ⟨t, db, h1, _⟩ := hb
  exact h.updO hg h1 (fun x hx => by cases hx)
theorem Marks.own {B base e size n : Nat} {D : List Deferred} {w w' : World} {v : Value} {xs : List Value} (h : Marks B D w) (hg : w.grownBy w' v.ownBlock) (ho : w.ownsRow base e size v n xs) : Marks B D w' := by
  rcases ho.2 with ⟨rfl, _⟩ | ⟨g, cap, cur, rfl, _, hb, _⟩
  · exact h.keep fun d hd => hg.block d (heap_lt hd) (by simp [Value.ownBlock])
  · exact h.updO hg hb (fun x hx => by cases hx)
theorem Marks.cons {B d : Nat} {D : List Deferred} {w : World} (h : Marks B D w) (hd : w.heap[d]? = some (.deferred (some []))) (hB : B ≤ d) (hn : marked d ∉ D) : Marks B (marked d :: D) w := by
  obtain ⟨ds, h1, h2, h3⟩ := h
  refine ⟨d :: ds, by rw [h1]; rfl, List.nodup_cons.2 ⟨fun hx => hn (by rw [h1]; exact List.mem_map.2 ⟨d, hx, rfl⟩), h2⟩, fun x hx => ?_⟩
  rcases List.mem_cons.1 hx with rfl | hx
  · exact ⟨hB, hd⟩
  · exact h3 x hx
theorem Marks.lt {B d : Nat} {D : List Deferred} {w : World} (h : Marks B D w) (hd : w.heap.size ≤ d) : marked d ∉ D := by
  obtain ⟨ds, h1, h2, h3⟩ := h
  intro hx
  rw [h1] at hx
  obtain ⟨d', hd', he⟩ := List.mem_map.1 hx
  have : d' = d := by
    have := congrArg (fun x : Deferred => x.target) he
    simpa [marked] using this
  subst this
  have := heap_lt (h3 d' hd').2
  omega
/-- all marks are taken -/
theorem unw_many {B : Nat} {D : List Deferred} {w : World} (h : Marks B D w) : ∃ w', Unw w D w' ∧ w'.heap.size = w.heap.size ∧ FrS (fun k => B ≤ k ∧ w.heap[k]? = some (.deferred (some []))) w w' := by
  obtain ⟨ds, rfl, h2, h3⟩ := h
  induction ds generalizing w with
  | nil => exact ⟨w, .nil w, rfl, FrS.refl _ _⟩
  | cons d ds ih =>
    have hd := h3 d (by simp)
    obtain ⟨hnd, h2⟩ := List.nodup_cons.1 h2
    have hkeep : ∀ x ∈ ds, B ≤ x ∧ ({ w with heap := w.heap.setIfInBounds d (.deferred none) } : World).heap[x]? = some (.deferred (some [])) := fun x hx => by
      refine ⟨(h3 x (by simp [hx])).1, ?_⟩
      simp only
      rw [Array.getElem?_setIfInBounds_ne (show d ≠ x from fun he => hnd (by rw [he]; exact hx))]
      exact (h3 x (by simp [hx])).2
    obtain ⟨w', hU, hz, hF⟩ := ih h2 hkeep
    refine ⟨w', .cons hd.2 hU, by rw [hz]; simp, ⟨hF.os, hF.tape, hF.output, by rw [hz]; simp, fun k hk hn => ?_⟩⟩
    have hne : d ≠ k := fun he => hn (by rw [← he]; exact hd)
    have hk2 : ({ w with heap := w.heap.setIfInBounds d (.deferred none) } : World).heap[k]? = w.heap[k]? := by
      simp only
      rw [Array.getElem?_setIfInBounds_ne hne]
    rw [hF.keep k (by simpa using hk) (fun hx => hn ⟨hx.1, hk2.symm.trans hx.2⟩), hk2]
theorem Blk.unw {B : Nat} {w w' : World} {b : Nat} {cs : List Value} (h : Blk w b cs) (hF : FrS (fun k => B ≤ k ∧ w.heap[k]? = some (.deferred (some []))) w w') : Blk w' b cs :=
  h.frS hF (fun hx => by obtain ⟨T, h⟩ := h; rw [h] at hx; cases hx.2)
theorem own_updne {w w' : World} {base e size n b : Nat} {v : Value} {xs : List Value} (h : w.ownsRow base e size v n xs) (hg : w.grownBy w' (some b)) (hb : ∀ g, v.ownBlock = some g → g ≠ b) : w'.ownsRow base e size v n xs :=
  own_keepB h fun g hg' => hg.block g (h.lt g hg').2 (fun he => hb g hg' (by cases he; rfl))

section
variable {P : Program} {ops : Array Oper} {e : Env} {w : World}
variable {d : Option Nat} {ty : TypeId} {pos : String} {af : Array Edge} {g : Option (Nat × Bool)}
end
end Go.Gv
namespace Go.Gv
open Go Go.RowKit

section
variable {C : Ctx} {ops : Array Oper} {k : List Item} {D : List Deferred}
def ClsB (b : Nat) (cs : List Value) (t : Nat) (y : Nat) (w w' : World) : Prop := if y ≤ t then Ext w w' else (Blk w b cs → Blk w' b cs)
theorem ClsB.refl (b : Nat) (cs : List Value) (t : Nat) : ∀ y w, ClsB b cs t y w w := fun y w => by
  unfold ClsB; split
  · exact Ext.refl w
  · exact fun h => h
theorem ClsB.trans (b : Nat) (cs : List Value) (t : Nat) : ∀ y u v w, ClsB b cs t y u v → ClsB b cs t y v w → ClsB b cs t y u w := fun y u v w h h' => by
  unfold ClsB at *; split
  · rename_i hy; rw [if_pos hy] at h h'; exact h.trans h'
  · rename_i hy; rw [if_neg hy] at h h'; exact fun x => h' (h x)
theorem ClsB.ext {b : Nat} {cs : List Value} {t : Nat} {w w' : World} (h : Ext w w') (y : Nat) : ClsB b cs t y w w' := by
  unfold ClsB; split
  · exact h
  · exact fun x => x.ext h
theorem ClsB.hi {b : Nat} {cs : List Value} {t y : Nat} {w w' : World} (hy : ¬ y ≤ t) (h : Blk w b cs → Blk w' b cs) : ClsB b cs t y w w' := by unfold ClsB; rw [if_neg hy]; exact h
theorem ClsB.lo {b : Nat} {cs : List Value} {t y : Nat} {w w' : World} (h : ClsB b cs t y w w') (hy : y ≤ t) : Ext w w' := by unfold ClsB at h; rwa [if_pos hy] at h
theorem ClsB.get {b : Nat} {cs : List Value} {t y : Nat} {w w' : World} (h : ClsB b cs t y w w') (hy : ¬ y ≤ t) (hb : Blk w b cs) : Blk w' b cs := by unfold ClsB at h; rw [if_neg hy] at h; exact h hb
end
end Go.Gv
namespace Go.Gv
open Go Go.RowKit
section
variable {P : Program} {ops : Array Oper} {e : Env} {w : World} {d : Option Nat} {ty : TypeId} {pos : String} {af : Array Edge} {g : Option (Nat × Bool)}
end
end Go.Gv
namespace Go.Gv
open Go Go.RowKit
section
variable {P : Program} {ops : Array Oper} {e : Env} {w : World} {d : Option Nat} {ty : TypeId} {pos : String} {af : Array Edge} {g : Option (Nat × Bool)}
def TyAt (w : World) (b : Nat) (T : TypeId) : Prop := ∃ cs, w.heap[b]? = some (.cells cs T (0, 0))
theorem TyAt.lt {w : World} {b T : Nat} (h : TyAt w b T) : b < w.heap.size := by
  obtain ⟨cs, h⟩ := h
  exact (Array.getElem?_eq_some_iff.1 h).1
theorem TyAt.ext {w w' : World} {b T : Nat} (h : TyAt w b T) (hE : Ext w w') : TyAt w' b T := by
  have hl := h.lt
  obtain ⟨cs, h⟩ := h
  exact ⟨cs, by rw [hE.block b hl (by simp)]; exact h⟩
theorem TyAt.upd {w w' : World} {b j T : Nat} (h : TyAt w b T) (hE : w.grownBy w' (some j)) (hne : b ≠ j) : TyAt w' b T := by
  have hl := h.lt
  obtain ⟨cs, h⟩ := h
  exact ⟨cs, by rw [hE.block b hl (by simpa using hne)]; exact h⟩
end
end Go.Gv
namespace Go.Gv
open Go Go.RowKit
section
variable {P : Program} {ops : Array Oper} {e : Env} {w : World} {d : Option Nat} {ty : TypeId} {pos : String} {af : Array Edge} {g : Option (Nat × Bool)}
theorem own_ty_ne {w : World} {base el sz n T b : Nat} {v : Value} {xs : List Value} (h : w.ownsRow base el sz v n xs) (ht : TyAt w b T) (hne : el ≠ T) : some b ≠ v.ownBlock := by
  intro he
  obtain ⟨cs, ht⟩ := ht
  rcases h.2 with ⟨rfl, _⟩ | ⟨g', cap', cur, rfl, _, hg, _⟩
  · cases he
  · simp only [Value.ownBlock, Option.some.injEq] at he
    subst he
    rw [ht] at hg
    injection hg with hg
    injection hg with h1 h2
    exact hne h2.symm
theorem TyAt.own {w w' : World} {base el sz n T b : Nat} {v : Value} {xs : List Value} (ht : TyAt w b T) (h : w.ownsRow base el sz v n xs) (hG : w.grownBy w' v.ownBlock) (hne : el ≠ T) : TyAt w' b T := by
  have h0 := own_ty_ne h ht hne
  have hl := ht.lt
  obtain ⟨cs, ht⟩ := ht
  exact ⟨cs, by rw [hG.block b hl h0]; exact ht⟩
theorem own_ty_upd {w w' : World} {base el sz n T b : Nat} {v : Value} {xs : List Value} (h : w.ownsRow base el sz v n xs) (ht : TyAt w b T) (hG : w.grownBy w' (some b)) (hne : el ≠ T) : w'.ownsRow base el sz v n xs :=
  own_keepB h (fun g hg => hG.block g (h.lt g hg).2 (fun he => own_ty_ne h ht hne (by rw [hg]; exact he.symm)))
theorem o_alloct {K : Value → World → Prop} {t : TypeId} {z : Value} {cs : List Value} (hz : ∀ w, (zeroValue t).run P w = .ok z w) (hcs : z.cells = ⟨cs⟩) (hw : wantedE ops e ⟨d, .alloc t, ty, pos, af, g⟩ = true)
    (h : ∀ b w', w.heap.size ≤ b → b < w'.heap.size → w.heap.size ≤ w'.heap.size → Blk w' b cs → TyAt w' b t → Ext w w' → K ((ptr b 0)) w') : EffAt P ops e w ⟨d, .alloc t, ty, pos, af, g⟩ K :=
  e_value (w' := w.alloc (.cells ⟨cs⟩ t)) hw rfl (by simp [execOp, Instr.alloc, hz, newVar, newRow, hcs])
    (h w.heap.size _ (Nat.le_refl _) (by simp) (by simp) (blk_new w cs t) ⟨_, heap_alloc_new w _⟩ (World.grownBy_alloc w _ none))
end
end Go.Gv
namespace Go.Gv
open Go Go.RowKit
/-- a tree of orders: op: this one is next; fork: this one may be next, or the other tree -/
inductive Ord3 where
  | done
  | op (i : Nat) (t : Ord3)
  | fork (i : Nat) (a b : Ord3)
def Ord3.elems : Ord3 → List Nat
  | .done => []
  | .op i t => i :: t.elems
  | .fork i a _ => i :: a.elems
section
variable {C : Ctx} {ops : Array Oper} {k : List Item} {D : List Deferred}
def Mix3 (P : Program) (ops : Array Oper) (Cls : World → World → Prop) (eff : List Nat) (K : Env → World → Prop) : Ord3 → Env → World → Prop
  | .done, e, w => K e w
  | .op i t, e, w => ∃ o, ops[i]? = some o ∧
      if eff.contains i then EffAt P ops e w o (fun v w' => (eff.contains (i + 1000) = false → Cls w w') ∧ Mix3 P ops Cls eff K t (updo e o.dst v) w')
      else ∃ v, (∀ w', Cls w w' → QuietAt P ops e w' o v) ∧ Mix3 P ops Cls eff K t (updo e o.dst v) w
  | .fork i a b, e, w => (∃ o, ops[i]? = some o ∧
      if eff.contains i then EffAt P ops e w o (fun v w' => (eff.contains (i + 1000) = false → Cls w w') ∧ Mix3 P ops Cls eff K a (updo e o.dst v) w')
      else ∃ v, (∀ w', Cls w w' → QuietAt P ops e w' o v) ∧ Mix3 P ops Cls eff K a (updo e o.dst v) w) ∧ Mix3 P ops Cls eff K b e w
/-- x is taken out: quiet operations may be left standing -/
def Ord3.pull (ops : Array Oper) (eff : List Nat) (x : Nat) : Ord3 → Option Ord3
  | .done => none
  | .op i t => if i = x then some t else if okPair ops eff i x then (Ord3.pull ops eff x t).map (.op i) else none
  | .fork i a b => if i = x then some a else Ord3.pull ops eff x b
variable {P : Program} {Cls : World → World → Prop} {eff : List Nat} {K : Env → World → Prop}
theorem mix_swap3 (hrefl : ∀ w, Cls w w) (htrans : ∀ a b c, Cls a b → Cls b c → Cls a c) {i j : Nat} {t : Ord3} {e : Env} {w : World}
    (hp : okPair ops eff i j = true) (h : Mix3 P ops Cls eff K (.op i (.op j t)) e w) : Mix3 P ops Cls eff K (.op j (.op i t)) e w := by
  unfold okPair at hp
  simp only [Bool.and_eq_true, Bool.not_eq_true'] at hp
  obtain ⟨⟨hi, hlj⟩, hy⟩ := hp
  cases hoi : ops[i]? with
  | none => simp [hoi] at hy
  | some oi =>
    cases hoj : ops[j]? with
    | none => simp [hoj, hoi] at hy
    | some oj =>
      simp only [hoi, hoj, Bool.and_eq_true] at hy
      obtain ⟨⟨hap, hsi⟩, hsj⟩ := hy
      obtain ⟨h1, h2, h3⟩ := Oper.apart_spec hap
      simp only [Mix3] at h ⊢
      obtain ⟨oi', hoi', h⟩ := h
      rw [hoi] at hoi'
      cases hoi'
      simp only [hi, if_neg Bool.false_ne_true] at h
      obtain ⟨vi, hqi, oj', hoj', h⟩ := h
      rw [hoj] at hoj'
      cases hoj'
      refine ⟨oj, hoj, ?_⟩
      by_cases hj : eff.contains j = true
      · simp only [hj, if_true] at h ⊢
        refine ((EffAt.updo hsj h1).1 h).mono fun v w' ⟨hc, hm⟩ => ⟨hc, oi, hoi, ?_⟩
        simp only [hi, if_neg Bool.false_ne_true]
        refine ⟨vi, fun w'' hc' => (QuietAt.updo hsi h3).2 (hqi w'' (htrans _ _ _ (hc hlj) hc')), ?_⟩
        rw [← updo_comm h2]
        exact hm
      · have hj : eff.contains j = false := by simpa using hj
        simp only [hj, if_neg Bool.false_ne_true] at h ⊢
        obtain ⟨vj, hqj, hm⟩ := h
        refine ⟨vj, fun w' hc => (QuietAt.updo hsj h1).1 (hqj w' hc), oi, hoi, ?_⟩
        simp only [hi, if_neg Bool.false_ne_true]
        refine ⟨vi, fun w' hc => (QuietAt.updo hsi h3).2 (hqi w' hc), ?_⟩
        rw [← updo_comm h2]
        exact hm
theorem mix_mono3 {t t' : Ord3} (h : ∀ e w, Mix3 P ops Cls eff K t e w → Mix3 P ops Cls eff K t' e w) (i : Nat) {e : Env} {w : World}
    (hm : Mix3 P ops Cls eff K (.op i t) e w) : Mix3 P ops Cls eff K (.op i t') e w := by
  simp only [Mix3] at hm ⊢
  obtain ⟨o, ho, hm⟩ := hm
  refine ⟨o, ho, ?_⟩
  by_cases hi : eff.contains i = true
  · rw [if_pos hi] at hm ⊢
    exact hm.mono fun v w' hx => ⟨hx.1, h _ _ hx.2⟩
  · rw [if_neg hi] at hm ⊢
    obtain ⟨v, hq, hm⟩ := hm
    exact ⟨v, hq, h _ _ hm⟩
theorem mix_pull3 (hrefl : ∀ w, Cls w w) (htrans : ∀ a b c, Cls a b → Cls b c → Cls a c) {x : Nat} : ∀ (t t' : Ord3) (e : Env) (w : World), t.pull ops eff x = some t' → Mix3 P ops Cls eff K t e w → Mix3 P ops Cls eff K (.op x t') e w
  | .done, _, _, _, h, _ => by simp [Ord3.pull] at h
  | .op i t, t', e, w, h, hm => by
    unfold Ord3.pull at h
    split at h
    · rename_i hi; injection h with h; subst hi; subst h; exact hm
    · split at h
      · rename_i hok
        obtain ⟨t'', h1, rfl⟩ := Option.map_eq_some_iff.1 h
        exact mix_swap3 hrefl htrans hok (mix_mono3 (fun e w hm => mix_pull3 hrefl htrans t t'' e w h1 hm) i hm)
      · cases h
  | .fork i a b, t', e, w, h, hm => by
    unfold Ord3.pull at h
    simp only [Mix3] at hm
    split at h
    · rename_i hi; injection h with h; subst hi; subst h
      simp only [Mix3]; exact hm.1
    · exact mix_pull3 hrefl htrans b t' e w h hm.2

/-- may the scheduler take what it will? -/
def Ord3.subset (l m : List Nat) : Bool := l.all (fun i => m.contains i)
mutual
def Ord3.good (ops : Array Oper) (eff : List Nat) (f : Nat) : Ord3 → Bool
  | .done => true
  | .op i t => t.elems.all (fun x => okPair ops eff i x || rchB ops f x i) && !t.elems.contains i && Ord3.good ops eff f t
  | .fork i a b => !a.elems.contains i && Ord3.good ops eff f a && (b.elems.length == a.elems.length + 1) && Ord3.subset (i :: a.elems) b.elems && Ord3.subset b.elems (i :: a.elems) && Ord3.goodX ops eff f [i] b
def Ord3.goodX (ops : Array Oper) (eff : List Nat) (f : Nat) (S : List Nat) : Ord3 → Bool
  | .done => false
  | .op j t => t.elems.all (fun x => S.contains x || rchB ops f x j || S.any (fun s => rchB ops f x s)) && !t.elems.contains j && Ord3.good ops eff f t
  | .fork i a b => !a.elems.contains i && Ord3.good ops eff f a && (b.elems.length == a.elems.length + 1) && Ord3.subset (i :: a.elems) b.elems && Ord3.subset b.elems (i :: a.elems) && Ord3.goodX ops eff f (i :: S) b
end
theorem sub_spec {l m : List Nat} (h : Ord3.subset l m = true) : ∀ y, y ∈ l → y ∈ m := fun y hy => by
  have := List.all_eq_true.1 h y hy
  simpa using this
/-- what is left when x has been taken -/
def Lft3 (t t' : Ord3) (x : Nat) : Prop := (∀ y, y ∈ t'.elems ↔ (y ∈ t.elems ∧ y ≠ x)) ∧ t'.elems.length + 1 = t.elems.length
theorem left_op {i : Nat} {t : Ord3} (h : ¬ i ∈ t.elems) : Lft3 (.op i t) t i := by
  refine ⟨fun y => ?_, rfl⟩
  simp only [Ord3.elems, List.mem_cons]
  constructor
  · exact fun hy => ⟨.inr hy, fun he => h (he ▸ hy)⟩
  · rintro ⟨rfl | hy, hne⟩
    · exact absurd rfl hne
    · exact hy
theorem left_of_eq {t b t' : Ord3} {x : Nat} (h : Lft3 b t' x) (he : ∀ y, y ∈ b.elems ↔ y ∈ t.elems) (hl : b.elems.length = t.elems.length) : Lft3 t t' x :=
  ⟨fun y => by rw [h.1 y, he y], by rw [h.2, hl]⟩
mutual
theorem good_pull {f x : Nat} : ∀ (t : Ord3), Ord3.good ops eff f t = true → x ∈ t.elems → (∀ y ∈ t.elems, ¬ Rch ops x y) → ∃ t', t.pull ops eff x = some t' ∧ Ord3.good ops eff f t' = true ∧ Lft3 t t' x
  | .done, _, hx, _ => by simp [Ord3.elems] at hx
  | .op i t, hg, hx, hr => by
    unfold Ord3.good at hg
    simp only [Bool.and_eq_true, Bool.not_eq_true', List.all_eq_true, Bool.or_eq_true] at hg
    obtain ⟨⟨hp, hni⟩, hgt⟩ := hg
    have hni : ¬ i ∈ t.elems := by simpa using hni
    by_cases hix : i = x
    · subst hix
      exact ⟨t, by rw [Ord3.pull, if_pos rfl], hgt, left_op hni⟩
    · have hxt : x ∈ t.elems := by
        simp only [Ord3.elems, List.mem_cons] at hx
        exact hx.resolve_left (fun h => hix h.symm)
      have hok : okPair ops eff i x = true := (hp x hxt).resolve_right (fun h => hr i (by simp [Ord3.elems]) (rchB_spec h))
      obtain ⟨t', h1, h2, h3⟩ := good_pull t hgt hxt (fun y hy => hr y (by simp [Ord3.elems, hy]))
      refine ⟨.op i t', by rw [Ord3.pull, if_neg hix, if_pos hok, h1]; rfl, ?_, ?_⟩
      · unfold Ord3.good
        simp only [Bool.and_eq_true, Bool.not_eq_true', List.all_eq_true, Bool.or_eq_true]
        refine ⟨⟨fun y hy => hp y ((h3.1 y).1 hy).1, ?_⟩, h2⟩
        have : ¬ i ∈ t'.elems := fun h => hni ((h3.1 i).1 h).1
        simpa using this
      · refine ⟨fun y => ?_, by simp only [Ord3.elems, List.length_cons]; rw [h3.2]⟩
        simp only [Ord3.elems, List.mem_cons]
        rw [h3.1 y]
        constructor
        · rintro (rfl | ⟨h, h'⟩)
          · exact ⟨.inl rfl, hix⟩
          · exact ⟨.inr h, h'⟩
        · rintro ⟨rfl | h, h'⟩
          · exact .inl rfl
          · exact .inr ⟨h, h'⟩
  | .fork i a b, hg, hx, hr => by
    unfold Ord3.good at hg
    simp only [Bool.and_eq_true, Bool.not_eq_true', beq_iff_eq] at hg
    obtain ⟨⟨⟨⟨⟨hni, hga⟩, hl⟩, hs1⟩, hs2⟩, hgb⟩ := hg
    have hni : ¬ i ∈ a.elems := by simpa using hni
    by_cases hix : i = x
    · subst hix
      refine ⟨a, by rw [Ord3.pull, if_pos rfl], hga, ?_⟩
      exact ⟨(left_op hni).1, rfl⟩
    · obtain ⟨t', h1, h2, h3⟩ := goodX_pull b [i] hgb (sub_spec hs1 x hx) (by simpa using fun h => hix h.symm) (fun s hs => by rw [List.mem_singleton] at hs; subst hs; exact sub_spec hs1 s (by simp)) (fun y hy => hr y (sub_spec hs2 y hy))
      exact ⟨t', by rw [Ord3.pull, if_neg hix]; exact h1, h2, left_of_eq h3 (fun y => ⟨sub_spec hs2 y, sub_spec hs1 y⟩) hl⟩
theorem goodX_pull {f x : Nat} : ∀ (t : Ord3) (S : List Nat), Ord3.goodX ops eff f S t = true → x ∈ t.elems → ¬ x ∈ S → (∀ s ∈ S, s ∈ t.elems) → (∀ y ∈ t.elems, ¬ Rch ops x y) → ∃ t', t.pull ops eff x = some t' ∧ Ord3.good ops eff f t' = true ∧ Lft3 t t' x
  | .done, S, hg, _, _, _, _ => by simp [Ord3.goodX] at hg
  | .op j t, S, hg, hx, hS, hSt, hr => by
    unfold Ord3.goodX at hg
    simp only [Bool.and_eq_true, Bool.not_eq_true', List.all_eq_true, Bool.or_eq_true] at hg
    obtain ⟨⟨hp, hni⟩, hgt⟩ := hg
    have hni : ¬ j ∈ t.elems := by simpa using hni
    by_cases hix : j = x
    · subst hix
      exact ⟨t, by rw [Ord3.pull, if_pos rfl], hgt, left_op hni⟩
    · have hxt : x ∈ t.elems := by
        simp only [Ord3.elems, List.mem_cons] at hx
        exact hx.resolve_left (fun h => hix h.symm)
      rcases hp x hxt with (h | h) | h
      · exact absurd (by simpa using h) hS
      · exact absurd (rchB_spec h) (hr j (by simp [Ord3.elems]))
      · obtain ⟨s, hs, h⟩ := List.any_eq_true.1 h
        exact absurd (rchB_spec h) (hr s (hSt s hs))
  | .fork i a b, S, hg, hx, hS, hSt, hr => by
    unfold Ord3.goodX at hg
    simp only [Bool.and_eq_true, Bool.not_eq_true', beq_iff_eq] at hg
    obtain ⟨⟨⟨⟨⟨hni, hga⟩, hl⟩, hs1⟩, hs2⟩, hgb⟩ := hg
    have hni : ¬ i ∈ a.elems := by simpa using hni
    by_cases hix : i = x
    · subst hix
      refine ⟨a, by rw [Ord3.pull, if_pos rfl], hga, ?_⟩
      exact ⟨(left_op hni).1, rfl⟩
    · obtain ⟨t', h1, h2, h3⟩ := goodX_pull b (i :: S) hgb (sub_spec hs1 x hx) (by simp only [List.mem_cons]; rintro (h | h); exact hix h.symm; exact hS h) (fun s hs => by
        rcases List.mem_cons.1 hs with rfl | hs
        · exact sub_spec hs1 _ (by simp)
        · exact sub_spec hs1 s (hSt s hs)) (fun y hy => hr y (sub_spec hs2 y hy))
      exact ⟨t', by rw [Ord3.pull, if_neg hix]; exact h1, h2, left_of_eq h3 (fun y => ⟨sub_spec hs2 y, sub_spec hs1 y⟩) hl⟩
end
theorem elems_nil {t : Ord3} (h : t.elems = []) : t = .done := by
  cases t with
  | done => rfl
  | op i t => simp [Ord3.elems] at h
  | fork i a b => simp [Ord3.elems] at h

theorem mix_sound3 (hrefl : ∀ w, Cls w w) (htrans : ∀ a b c, Cls a b → Cls b c → Cls a c) {f : Nat} (hops : ops.all (opOk C.n) = true)
    (hbk : ∀ (i : Nat) (o : Oper), ops[i]? = some o → ∀ ed ∈ o.after, Region.binds .any ed = true → ed.on < i) :
    ∀ (fuel s : Nat) (listed : Array Bool) (t : Ord3) (e : Env) (w : World), listed.size = ops.size → (∀ i, i < ops.size → (listed.getD i true = false ↔ i ∈ t.elems)) → (∀ i ∈ t.elems, i < ops.size) → t.elems.length ≤ fuel →
      ClosedUp ops listed → Ord3.good ops eff f t = true → Mix3 C.P ops Cls eff (fun e w => Runs C k e D w) t e w →
      Runs C (.inRegion ops (Region.linearise.go .any ops fuel s listed []) :: k) e D w := by
  have done : ∀ (e : Env) (w : World), Runs C k e D w → Runs C (.inRegion ops [] :: k) e D w := fun e w h =>
    (l_nil (ops := ops) h) hops [] rfl
  have nonempty : ∀ (listed : Array Bool) (l : List Nat), listed.size = ops.size → (∀ i, i < ops.size → (listed.getD i true = false ↔ i ∈ l)) → (∀ i ∈ l, i < ops.size) → l ≠ [] → Region.ready .any ops listed ≠ [] := by
    intro listed l hsz hl hlt hne hr
    have : ∀ n i, i ≤ n → i ∈ l → False := by
      intro n
      induction n with
      | zero =>
        intro i hi hil
        obtain rfl : i = 0 := by omega
        have h0 := hlt 0 hil
        have : (0 : Nat) ∈ Region.ready .any ops listed := mem_ready.2 ⟨(hl 0 h0).2 hil, _, Array.getElem?_eq_getElem h0, fun ed hed hb => absurd (hbk 0 _ (Array.getElem?_eq_getElem h0) ed hed hb) (by omega)⟩
        rw [hr] at this
        simp at this
      | succ n ih =>
        intro i hi hil
        have h0 := hlt i hil
        have : i ∈ Region.ready .any ops listed := mem_ready.2 ⟨(hl i h0).2 hil, _, Array.getElem?_eq_getElem h0, fun ed hed hb => by
          have hlt' := hbk i _ (Array.getElem?_eq_getElem h0) ed hed hb
          have hon : ed.on < ops.size := by omega
          by_cases hm : ed.on ∈ l
          · exact (ih ed.on (by omega) hm).elim
          · have := mt (hl ed.on hon).1 hm
            have hs : ed.on < listed.size := by omega
            simp [hs] at this ⊢
            exact this⟩
        rw [hr] at this
        simp at this
    cases l with
    | nil => exact hne rfl
    | cons i l => exact this i i (Nat.le_refl _) (by simp)
  intro fuel
  induction fuel with
  | zero =>
    intro s listed t e w _ _ _ hf _ _ h
    have : t = .done := elems_nil (List.eq_nil_of_length_eq_zero (by omega))
    subst this
    simp only [Region.linearise.go, List.reverse_nil]
    exact done e w h
  | succ fuel ih =>
    intro s listed t e w hsz hl hlt hf hcl hgood h
    simp only [Region.linearise.go]
    change Runs C (.inRegion ops (match (Region.ready .any ops listed)[s % (Region.ready .any ops listed).length]? with
      | some i => Region.linearise.go .any ops fuel (s / (Region.ready .any ops listed).length) (listed.setIfInBounds i true) [i]
      | none => [].reverse) :: k) e D w
    cases hi : (Region.ready .any ops listed)[s % (Region.ready .any ops listed).length]? with
    | none =>
      have hnil : Region.ready .any ops listed = [] := by
        cases hr : Region.ready .any ops listed with
        | nil => rfl
        | cons x xs =>
          rw [hr] at hi
          have hlt : s % (x :: xs).length < (x :: xs).length := Nat.mod_lt _ (by simp)
          simp at hi
          simp at hlt
          omega
      have : t = .done := elems_nil (by
        cases hl' : t.elems with
        | nil => rfl
        | cons a b => exact absurd hnil (nonempty listed t.elems hsz hl hlt (by rw [hl']; simp)))
      subst this
      exact done e w h
    | some x =>
      simp only []
      rw [linearise_go_acc, List.reverse_singleton, List.singleton_append]
      obtain ⟨hun, o, ho, hpre⟩ := mem_ready.1 (List.mem_of_getElem? hi)
      have hxs : x < ops.size := (Array.getElem?_eq_some_iff.1 ho).1
      have hxt := (hl x hxs).1 hun
      obtain ⟨t', hpl, hg', hleft⟩ := good_pull t hgood hxt (fun y hy hrc => by
        have hly := hrc.listed hcl o ho hpre
        have hys := hlt y hy
        have := (hl y hys).2 hy
        have hs : y < listed.size := by omega
        simp [hs] at this hly
        rw [this] at hly
        cases hly)
      have hm := mix_pull3 hrefl htrans t t' e w hpl h
      simp only [Mix3] at hm
      obtain ⟨o', ho', hm⟩ := hm
      rw [ho] at ho'
      cases ho'
      have next : ∀ e' w', Mix3 C.P ops Cls eff (fun e w => Runs C k e D w) t' e' w' →
          Runs C (.inRegion ops (Region.linearise.go .any ops fuel (s / (Region.ready .any ops listed).length) (listed.setIfInBounds x true) []) :: k) e' D w' := by
        intro e' w' h'
        refine ih _ (listed.setIfInBounds x true) t' e' w' (by simpa using hsz) ?_ ?_ ?_ ?_ hg' h'
        · intro i hi'
          rw [getD_set (by omega)]
          by_cases hxi : x = i
          · subst hxi
            rw [if_pos rfl]
            constructor
            · intro h; cases h
            · intro h; exact absurd (Eq.refl x) ((hleft.1 x).1 h).2
          · rw [if_neg hxi, hl i hi', hleft.1 i]
            exact ⟨fun h => ⟨h, fun h' => hxi h'.symm⟩, fun h => h.1⟩
        · intro i hi'
          exact hlt i ((hleft.1 i).1 hi').1
        · have := hleft.2; omega
        · intro i o2 ho2 hli ed hed hb
          have hon : ed.on < i := hbk i o2 ho2 ed hed hb
          rw [getD_set (by omega)] at hli ⊢
          by_cases hxo : x = ed.on
          · simp [hxo]
          · rw [if_neg hxo]
            by_cases hxi : x = i
            · subst hxi
              rw [ho] at ho2
              cases ho2
              exact hpre ed hed hb
            · rw [if_neg hxi] at hli
              exact hcl i o2 ho2 hli ed hed hb
      refine i_o hops ho ?_
      by_cases he : eff.contains x = true
      · rw [if_pos he] at hm
        exact hm.mono fun v w' hx => next _ _ hx.2
      · rw [if_neg he] at hm
        obtain ⟨v, hq, hm⟩ := hm
        exact (hq w (hrefl w)).eff (next _ _ hm)
def treeOk (ops : Array Oper) (eff : List Nat) (f : Nat) (t : Ord3) : Bool :=
  Ord3.good ops eff f t && t.elems.length == ops.size && t.elems.all (fun i => decide (i < ops.size)) && (List.range ops.size).all (fun i => t.elems.contains i) &&
    (List.range ops.size).all (fun i => match ops[i]? with | some o => o.after.all (fun e => !Region.binds .any e || decide (e.on < i)) | none => true)
theorem r_draw3 {id : Nat} {l : List Oper} (hrefl : ∀ w, Cls w w) (htrans : ∀ a b c, Cls a b → Cls b c → Cls a c) (t : Ord3) (eff : List Nat) (f : Nat) (hm : C.P.follows .mixedOrders = true)
    (hc : treeOk l.toArray eff f t = true) {e : Env} {w : World}
    (h : ∀ w1, w1.heap = w.heap → Ext w w1 → Mix3 C.P l.toArray Cls eff (fun e w => Runs C k e D w) t e w1) : Runs C (.code (.region id l.toArray true) :: k) e D w := by
  intro hk a b cs ha hD hf hr hki hcs
  have hops : l.toArray.all (opOk C.n) = true := (stackOk_cons.1 hk).1
  unfold treeOk at hc
  simp only [Bool.and_eq_true, List.all_eq_true, beq_iff_eq, List.mem_range] at hc
  obtain ⟨⟨⟨⟨hp, hlen⟩, hltc⟩, hall⟩, hbk⟩ := hc
  have hltc : ∀ i ∈ t.elems, i < l.toArray.size := fun i hi => of_decide_eq_true (hltc i hi)
  have hbk' : ∀ (i : Nat) (o : Oper), l.toArray[i]? = some o → ∀ ed ∈ o.after, Region.binds .any ed = true → ed.on < i := by
    intro i o ho ed hed hb
    have := hbk i (Array.getElem?_eq_some_iff.1 ho).1
    rw [ho] at this
    simp only [Array.all_eq_true_iff_forall_mem, Bool.or_eq_true, Bool.not_eq_true', decide_eq_true_eq] at this
    rcases this ed hed with h | h
    · rw [hb] at h; cases h
    · exact h
  have hstep := stepR_region_draw (P := C.P) (b := b) (a := a) (k := k) (cs := cs) (w := w) (ops := l.toArray) (id := id)
  have hrun := mix_sound3 (k := k) (D := D) (eff := eff) hrefl htrans hops hbk' l.toArray.size (w.tape w.drawn (.order b.fn id)) (Array.replicate l.toArray.size false) t e { w with drawn := w.drawn + 1 } (by simp)
    (fun i hi => by
      have := hall i hi
      simp only [List.contains_iff_mem] at this
      have hi' : i < l.length := by simpa using hi
      simp [hi', this]) hltc (by omega)
    (fun i o ho hli => by
      have hi : i < l.length := by simpa using (Array.getElem?_eq_some_iff.1 ho).1
      simp [hi] at hli) hp (h { w with drawn := w.drawn + 1 } rfl ⟨rfl, rfl, rfl, Nat.le_refl _, fun _ _ _ => rfl⟩)
  obtain ⟨v, w₂, m', hR, hst, hl⟩ := hrun (stackOk_cons.2 ⟨hops, (stackOk_cons.1 hk).2⟩) a b cs ha hD hf hr hki hcs
  refine ⟨v, w₂, m', hR, .head hstep ?_, hl⟩
  simp only [Region.schedule, hm, Bool.true_or, if_true]
  exact hst
theorem m_q3 {i : Nat} {o : Oper} {t : Ord3} {e : Env} {w : World} {v : Value} (ho : ops[i]? = some o) (hi : eff.contains i = false)
    (hq : ∀ w', Cls w w' → QuietAt P ops e w' o v) (h : Mix3 P ops Cls eff K t (updo e o.dst v) w) : Mix3 P ops Cls eff K (.op i t) e w := by
  simp only [Mix3]
  exact ⟨o, ho, by rw [if_neg (by rw [hi]; simp)]; exact ⟨v, hq, h⟩⟩
theorem m_o3 {i : Nat} {o : Oper} {t : Ord3} {e : Env} {w : World} (ho : ops[i]? = some o) (hi : eff.contains i = true)
    (h : EffAt P ops e w o (fun v w' => Cls w w' ∧ Mix3 P ops Cls eff K t (updo e o.dst v) w')) : Mix3 P ops Cls eff K (.op i t) e w := by
  simp only [Mix3]
  exact ⟨o, ho, by rw [if_pos hi]; exact h.mono fun v w' h => ⟨fun _ => h.1, h.2⟩⟩
theorem m_last3 {i : Nat} {o : Oper} {t : Ord3} {e : Env} {w : World} (ho : ops[i]? = some o) (hi : eff.contains i = true) (hl : eff.contains (i + 1000) = true)
    (h : EffAt P ops e w o (fun v w' => Mix3 P ops Cls eff K t (updo e o.dst v) w')) : Mix3 P ops Cls eff K (.op i t) e w := by
  simp only [Mix3]
  exact ⟨o, ho, by rw [if_pos hi]; exact h.mono fun v w' h => ⟨fun hx => (by rw [hl] at hx; cases hx), h⟩⟩
theorem m_fork3 {i : Nat} {a b : Ord3} {e : Env} {w : World} (h : Mix3 P ops Cls eff K (.op i a) e w) (h' : Mix3 P ops Cls eff K b e w) : Mix3 P ops Cls eff K (.fork i a b) e w := by
  simp only [Mix3] at h ⊢
  exact ⟨h, h'⟩
theorem m_nil3 {e : Env} {w : World} (h : K e w) : Mix3 P ops Cls eff K .done e w := h
end
end Go.Gv
namespace Go.Gv
open Go Go.RowKit
theorem wide_at {α : Type} {enc : α → List Value} {sz : Nat} (hs : ∀ x, (enc x).length = sz) (d : α) : ∀ (l : List α) (i : Nat), i < l.length → ((l.flatMap enc).drop (i * sz)).take sz = enc (l.getD i d)
  | [], i, h => by simp at h
  | x :: l, 0, _ => by
    rw [Nat.zero_mul, List.drop_zero, List.flatMap_cons]
    have := hs x
    subst this
    rw [List.take_left]; rfl
  | x :: l, i + 1, h => by
    have ih := wide_at hs d l i (by simpa using h)
    have hx := hs x
    rw [List.flatMap_cons, Nat.succ_mul, Nat.add_comm, ← List.drop_drop, List.drop_left' hx, ih]
    rfl
theorem wide_len {α : Type} {enc : α → List Value} {sz : Nat} (hs : ∀ x, (enc x).length = sz) : ∀ l : List α, (l.flatMap enc).length = l.length * sz
  | [] => by simp
  | x :: l => by rw [List.flatMap_cons, List.length_append, hs x, wide_len hs l, List.length_cons, Nat.succ_mul, Nat.add_comm]
theorem wide_one {α : Type} {enc : α → List Value} (h1 : ∀ x, (enc x).all Value.oneCell' = true) (l : List α) : (l.flatMap enc).all Value.oneCell' = true := by
  rw [List.all_eq_true]
  intro v hv
  obtain ⟨x, _, hx⟩ := List.mem_flatMap.1 hv
  exact List.all_eq_true.1 (h1 x) v hx
theorem cells_cast {w : World} {b o : Nat} {cs cs' : List Value} (h : cs = cs') (hc : Cells w b o cs) : Cells w b o cs' := h ▸ hc
section
variable {P : Program} {ops : Array Oper} {e : Env} {w : World} {d : Option Nat} {ty : TypeId} {pos : String} {af : Array Edge} {g : Option (Nat × Bool)}
theorem o_append_wide {α : Type} {enc : α → List Value} {sz : Nat} (hone : ∀ x, (enc x).all Value.oneCell' = true) (xs ys : List α) {K : Value → World → Prop} {t el : TypeId} {at_ : Array TypeId} {x y : Operand} {z : Value} {bytes base : Nat} {a a2 : Option Addr} {c c2 : Nat} (ht : P.underlying t = some (.slice el)) (he : Elem P el z sz bytes) (hat : at_ = #[t, t])
    (hx : ev e x = .slice a xs.length c) (hown : w.ownsRow base el sz (.slice a xs.length c) xs.length (xs.flatMap enc)) (hy : ev e y = .slice a2 ys.length c2) (hrow : Row w a2 ys.length c2 sz (ys.flatMap enc))
    (hbytes : xs.length + ys.length ≤ 140737488355328 ∧ (xs.length + ys.length) * bytes ≤ 140737488355328) (hbase : base ≤ w.heap.size)
    (hw : wantedE ops e ⟨d, .call ⟨.builtin .append, #[x, y], at_⟩, ty, pos, af, g⟩ = true)
    (h : ∀ a' c' w', w.heap.size ≤ w'.heap.size → w'.ownsRow base el sz (.slice a' (xs ++ ys).length c') (xs ++ ys).length ((xs ++ ys).flatMap enc) → w.grownBy w' (Value.ownBlock (.slice a xs.length c)) →
      K (.slice a' (xs ++ ys).length c') w') : EffAt P ops e w ⟨d, .call ⟨.builtin .append, #[x, y], at_⟩, ty, pos, af, g⟩ K :=
  o_append ht he hat hx hown hy hrow (wide_one hone _) (by unfold maxLen; omega) hbytes.2 hbase hw (fun a' c' w' hz ho hG => by
    have := h a' c' w' hz (by rw [List.length_append, List.flatMap_append]; exact ho) hG
    rwa [List.length_append] at this)
end
end Go.Gv
namespace Go.Gv
open Go Go.RowKit
section
variable {P : Program} {ops : Array Oper} {e : Env} {w : World} {d : Option Nat} {ty : TypeId} {pos : String} {af : Array Edge} {g : Option (Nat × Bool)}
end
/-- what has cells is not the map -/
theorem Has.gm {w w' : World} {b o m : Nat} {v : Value} {es : List MapEntry} {clock : Nat} (h : Has w b o v) (hM : MapAt w m es clock) (hg : w.grownBy w' (some m)) : Has w' b o v := by
  refine h.step hg (fun he => ?_)
  cases he
  unfold MapAt at hM
  simp [Has, World.cell?, hM] at h
theorem Cells.gm {w w' : World} {b o m : Nat} {cs : List Value} {es : List MapEntry} {clock : Nat} (h : Cells w b o cs) (hM : MapAt w m es clock) (hg : w.grownBy w' (some m)) : Cells w' b o cs := fun j v hj => (h j v hj).gm hM hg
theorem Row.gm {w w' : World} {a : Option Addr} {n c sz m : Nat} {cs : List Value} {es : List MapEntry} {clock : Nat} (h : Row w a n c sz cs) (hM : MapAt w m es clock) (hg : w.grownBy w' (some m)) : Row w' a n c sz cs :=
  ⟨h.1, h.2.1, h.2.2.imp id fun ⟨b, o, ha, hc⟩ => ⟨b, o, ha, hc.gm hM hg⟩⟩
theorem Blk.gm {w w' : World} {b m : Nat} {cs : List Value} {es : List MapEntry} {clock : Nat} (h : Blk w b cs) (hM : MapAt w m es clock) (hg : w.grownBy w' (some m)) : Blk w' b cs := by
  refine h.upd hg (fun he => ?_)
  subst he
  obtain ⟨T, h⟩ := h
  unfold MapAt at hM
  rw [hM] at h; cases h
theorem RowsI.gm {w w' : World} {m : Nat} {l : List SV} {es : List MapEntry} {clock : Nat} (h : RowsI w l) (hM : MapAt w m es clock) (hg : w.grownBy w' (some m)) : RowsI w' l := fun s hs => (h s hs).gm hM hg
end Go.Gv
