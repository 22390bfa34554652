/- Plain words for layer 2: codes, texts, signs, steps. Conditions: none. -/
import Derived.Lib.Join
import Derived.Lib.Bytealg
set_option linter.unusedVariables false
set_option linter.unusedSimpArgs false
namespace Go.Fl
abbrev Sg := List UInt8
def hasPfx (s p : Sg) : Bool := decide (s.take p.length = p)
def okL (bs : Sg) (m : Int) (s : Sg) : Bool := (decide (1 ≤ (s.length : Int)) && decide ((s.length : Int) ≤ m)) && s.all (fun b => bs.contains b)
def letterOk (s : Sg) : Bool := okL [46, 45] 4 s
def distinctAt (c : List Sg) (i : Nat) : Bool := !(c.take i).contains (c.getD i [])
def codeOk (c : List Sg) : Bool := !c.isEmpty && (List.range c.length).all (fun i => letterOk (c.getD i []) && distinctAt c i)
def letters (c : List Sg) (t : List Int) : List Sg := t.map (fun n => c.getD n.toNat [])
def signs (c : List Sg) (t : List Int) : Sg := Lib.join (letters c t) [32]

/-- steps: what is taken, and what is written -/
def stepTW (kind : Int) (sent : Sg) : Option (Nat × Sg) :=
  if kind = 0 then (if sent = [] then none else some (1, sent.take 1))
  else if kind = 1 then (if sent = [] ∨ sent.getD 0 0 = 32 then none else some (1, []))
  else if kind = 2 then (if sent = [] ∨ sent.getD 0 0 ≠ 45 then none else some (1, [46, 46]))
  else if kind = 3 then (if sent.length < 2 ∨ sent.take 2 ≠ [46, 46] then none else some (2, [45]))
  else if kind = 4 then (if sent = [] ∨ sent.getD 0 0 ≠ 32 then none else some (1, []))
  else if kind = 5 then some (0, [32])
  else none
def stepR (kind : Int) (sent read : Sg) : Sg × Sg × Bool :=
  match stepTW kind sent with
  | none => ([], [], false)
  | some (t, wr) => if hasPfx read wr then (sent.drop t, read.drop wr.length, true) else ([], [], false)
def cost (kind : Int) : Int := if kind = 0 then 0 else 1

theorem getD_lt {α : Type} {l : List α} {i : Nat} {d : α} (h : i < l.length) : l.getD i d ∈ l := by
  rw [List.getD_eq_getElem?_getD, List.getElem?_eq_getElem h]; exact List.getElem_mem h
theorem take_succ_getD {t : List Int} {k : Nat} (h : k < t.length) : t.take (k + 1) = t.take k ++ [t.getD k 0] := by
  rw [List.take_add_one, List.getElem?_eq_getElem h, List.getD_eq_getElem?_getD, List.getElem?_eq_getElem h]; rfl
end Go.Fl
