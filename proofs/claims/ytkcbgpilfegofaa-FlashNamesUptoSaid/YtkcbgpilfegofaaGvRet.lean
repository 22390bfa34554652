/- The program logic's laws for returns, loops' ghosts and small words for proofs. Conditions: none. -/
import Derived.Test.YtkcbgpilfegofaaGvDraw
set_option linter.unusedVariables false
set_option linter.unusedSimpArgs false
namespace Go.Gv
open Go Go.RowKit

def resOf (P : Program) (e : Env) (w : World) : List ResultVar → List Value → Prop
  | [], [] => True
  | .tmp t :: rs, v :: vs => e t = v ∧ resOf P e w rs vs
  | .cell a t :: rs, v :: vs => (∃ b o, e a = ptr b o ∧ (loadVar t ⟨b, o, none⟩).run P w = .ok v w) ∧ resOf P e w rs vs
  | _, _ => False
def pack : List Value → Value
  | [v] => v
  | vs => .tuple ⟨vs⟩

def resF (tmps : Array Value) (x : ResultVar) : Sem Value := match x with
  | .tmp t => pure (tmps.getD t undef)
  | .cell a t => do loadVar t (← asAddr (tmps.getD a undef))
theorem results_eq (fn : Func) (tmps : Array Value) : results fn tmps = (do let vs ← fn.results.mapM (resF tmps); pure (if h : vs.size = 1 then vs[0] else .tuple vs)) := by
  have h : results fn tmps = (do let vs ← fn.results.mapM (fun x => match x with
    | .tmp t => pure (tmps.getD t undef)
    | .cell a t => do loadVar t (← asAddr (tmps.getD a undef))); pure (if h : vs.size = 1 then vs[0] else .tuple vs)) := rfl
  rw [h]
  rfl

theorem run_results_list {P : Program} {e : Env} {w : World} {tmps : Array Value} (ht : ∀ t, tmps.getD t undef = e t) : ∀ (rs : List ResultVar) (vs : List Value), resOf P e w rs vs →
    (rs.mapM (resF tmps)).run P w = .ok vs w
  | [], [], _ => by simp
  | .tmp t :: rs, v :: vs, h => by
    have ih := run_results_list ht rs vs h.2
    have h1 : (resF tmps (.tmp t)).run P w = .ok v w := by simp only [resF, Sem.run_pure]; rw [ht t, h.1]
    simp only [List.mapM_cons, Sem.run_bind, h1, Result.andThen_ok, ih, Sem.run_pure]
  | .cell a t :: rs, v :: vs, h => by
    have ih := run_results_list ht rs vs h.2
    obtain ⟨⟨b, o, h1, h2⟩, _⟩ := h
    have h3 : tmps.getD a undef = ptr b o := by rw [ht a, h1]
    have h4 : (resF tmps (.cell a t)).run P w = .ok v w := by simp only [resF, h3, asAddr, Sem.run_bind, Sem.run_pure, Result.andThen_ok, h2]
    simp only [List.mapM_cons, Sem.run_bind, h4, Sem.run_pure, Result.andThen_ok, ih]
  | [], _ :: _, h => h.elim
  | .tmp _ :: _, [], h => h.elim
  | .cell _ _ :: _, [], h => h.elim

theorem run_results {P : Program} {e : Env} {w : World} {fn : Func} {rs : List ResultVar} {vs : List Value} (hres : fn.results = rs.toArray) (h : resOf P e w rs vs) (tmps : Array Value) (ht : ∀ t, tmps.getD t undef = e t) :
    (results fn tmps).run P w = .ok (pack vs) w := by
  have hl := run_results_list ht rs vs h
  rw [results_eq, hres]
  simp only [List.mapM_toArray, Sem.run_bind, Sem.run_map, hl, Result.andThen_ok, Sem.run_pure]
  congr 1
  match vs with
  | [] => rfl
  | [v] => rfl
  | _ :: _ :: _ => rfl

theorem run_loadVar1 {P : Program} {w : World} {t : TypeId} {b o : Nat} {v : Value} (hag : ∀ w, (isAgg t).run P w = .ok false w) (hc : Has w b o v) : (loadVar t ⟨b, o, none⟩).run P w = .ok v w := by
  have hc' : w.cell? ⟨b, o, none⟩ = some v := hc
  simp [loadVar, hag, hc']
theorem run_loadVarA {P : Program} {w : World} {t : TypeId} {b o n : Nat} {cs : List Value} (hag : ∀ w, (isAgg t).run P w = .ok true w) (hsz : ∀ w, (sizeOf t).run P w = .ok n w) (hc : Cells w b o cs) (hn : cs.length = n) : (loadVar t ⟨b, o, none⟩).run P w = .ok (.agg ⟨cs⟩) w := by
  subst hn
  have hl := run_loadCells_list (P := P) w ⟨b, o, none⟩ cs (fun j v hj => by rw [Addr.add_lit]; exact hc j v hj)
  simp [loadVar, hag, hsz, hl]

section
variable {C : Ctx} {k : List Item} {e : Env} {D : List Deferred} {w w' : World}

/-- 'return' -/
theorem r_ret_ {fn : Func} {rs : List ResultVar} {vs : List Value} (hr : C.r = none) (hf : C.P.funcs[C.f]? = some fn) (hres : fn.results = rs.toArray) (hu : Unw w D w') (h : resOf C.P e w' rs vs) (hR : C.R (pack vs) w') : Runs C (.code .ret :: k) e D w :=
  r_ret hr hf hu (fun tmps ht => run_results hres h tmps ht) hR
/-- the end of a function's text -/
theorem r_end_ {fn : Func} {rs : List ResultVar} {vs : List Value} (hr : C.r = none) (hf : C.P.funcs[C.f]? = some fn) (hres : fn.results = rs.toArray) (hu : Unw w D w') (h : resOf C.P e w' rs vs) (hR : C.R (pack vs) w') : Runs C [] e D w :=
  r_end hr hf hu (fun tmps ht => run_results hres h tmps ht) hR

theorem knows_env {l : List (Nat × Value)} (h : Knows e l) : ∃ e0, e = L l e0 := ⟨e, (L_same h).symm⟩
end

theorem vint_eq {a b : Int} (h : a = b) : vint a = vint b := by rw [h]
theorem vbool_eq {a b : Bool} (h : a = b) : Value.bool a = Value.bool b := by rw [h]
theorem vstr_eq {a b : List UInt8} (h : a = b) : vstr a = vstr b := by rw [h]

/-- a string as its bytes -/
theorem vstr_of (s : ByteArray) : Value.string s = vstr s.data.toList := rfl

end Go.Gv
