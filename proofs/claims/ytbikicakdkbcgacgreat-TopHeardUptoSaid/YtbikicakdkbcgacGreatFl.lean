/- Plain words for layer 2: codes, texts, signs, steps. Conditions: none. -/
import Derived.Lib.Join
import Derived.Lib.Bytealg
set_option linter.unusedVariables false
set_option linter.unusedSimpArgs false
namespace Go.Fl
abbrev Sg := List UInt8
def hasPfx (s p : Sg) : Bool := decide (s.take p.length = p)
def okL (bs : Sg) (m : Int) (s : Sg) : Bool := (decide (1 ≤ (s.length : Int)) && decide ((s.length : Int) ≤ m)) && s.all (fun b => bs.contains b)
def letterOk (s : Sg) : Bool := okL [46, 45] 4 s
def distinctAt (c : List Sg) (i : Nat) : Bool := !(c.take i).contains (c.getD i [])
def codeOk (c : List Sg) : Bool := !c.isEmpty && (List.range c.length).all (fun i => letterOk (c.getD i []) && distinctAt c i)
def fault (c : List Sg) : Int := if 6 < c.length then 3 else if codeOk c then 0 else 1
def isSigns (s : Sg) : Bool := s.all (fun b => [46, 45, 32].contains b)
def signsFault (a b : Sg) : Int := if 40 < a.length ∨ 40 < b.length then 3 else if isSigns a && isSigns b then 0 else 4
def isText (c : List Sg) (t : List Int) : Bool := t.all (fun n => decide (0 ≤ n) && decide (n ≤ (c.length : Int) - 1))
def letters (c : List Sg) (t : List Int) : List Sg := t.map (fun n => c.getD n.toNat [])
def signs (c : List Sg) (t : List Int) : Sg := Lib.join (letters c t) [32]

theorem fault_bad {c : List Sg} {i : Nat} (h6 : c.length ≤ 6) (hi : i < c.length) (h : letterOk (c.getD i []) = false ∨ distinctAt c i = false) : fault c = 1 := by
  unfold fault
  rw [if_neg (by omega)]
  have : codeOk c = false := by
    unfold codeOk
    rw [Bool.and_eq_false_iff]
    right
    rw [List.all_eq_false]
    refine ⟨i, List.mem_range.2 hi, ?_⟩
    rcases h with h | h <;> simp only [h, Bool.false_and, Bool.and_false] <;> decide
  simp [this]
theorem fault_good {c : List Sg} (h6 : c.length ≤ 6) (h0 : c.length ≠ 0) (h : ∀ i, i < c.length → letterOk (c.getD i []) = true ∧ distinctAt c i = true) : fault c = 0 := by
  unfold fault
  rw [if_neg (by omega)]
  have : codeOk c = true := by
    unfold codeOk
    rw [Bool.and_eq_true]
    refine ⟨by cases c <;> simp_all, ?_⟩
    rw [List.all_eq_true]
    intro i hi
    have := h i (List.mem_range.1 hi)
    rw [this.1, this.2]; rfl
  simp [this]
theorem fault_empty {c : List Sg} (h0 : c.length = 0) : fault c = 1 := by
  have : c = [] := List.eq_nil_of_length_eq_zero h0
  subst this; rfl
theorem fault_many {c : List Sg} (h : 6 < c.length) : fault c = 3 := by unfold fault; rw [if_pos h]
theorem fault_zero {c : List Sg} (h : fault c = 0) : c.length ≤ 6 ∧ c ≠ [] ∧ ∀ i, i < c.length → letterOk (c.getD i []) = true ∧ distinctAt c i = true := by
  unfold fault at h
  split at h
  · cases h
  · split at h
    · rename_i h6 hc
      unfold codeOk at hc
      rw [Bool.and_eq_true, List.all_eq_true] at hc
      refine ⟨by omega, by intro h; subst h; simp at hc, fun i hi => ?_⟩
      have := hc.2 i (List.mem_range.2 hi)
      simpa using this
    · cases h

theorem letter_len {s : Sg} (h : letterOk s = true) : 1 ≤ s.length ∧ s.length ≤ 4 := by
  simp [letterOk, okL] at h
  omega
theorem letter_bad_len {s : Sg} (h : s.length < 1 ∨ 4 < s.length) : letterOk s = false := by
  simp [letterOk, okL]
  intro h1 h2; omega
theorem letter_bad_byte {s : Sg} {k : Nat} (hk : k < s.length) (h1 : s.getD k 0 ≠ 46) (h2 : s.getD k 0 ≠ 45) : letterOk s = false := by
  unfold letterOk okL
  rw [Bool.and_eq_false_iff]
  right
  rw [List.all_eq_false]
  refine ⟨s.getD k 0, ?_, by generalize s.getD k 0 = b at *; simp [h1, h2]⟩
  rw [List.getD_eq_getElem?_getD, List.getElem?_eq_getElem hk]
  exact List.getElem_mem hk
theorem letter_good {s : Sg} (h : 1 ≤ s.length ∧ s.length ≤ 4) (hb : ∀ k, k < s.length → s.getD k 0 = 46 ∨ s.getD k 0 = 45) : letterOk s = true := by
  unfold letterOk okL
  rw [Bool.and_eq_true, Bool.and_eq_true, List.all_eq_true]
  refine ⟨⟨by simp; omega, by simp; omega⟩, fun b hm => ?_⟩
  obtain ⟨k, hk, rfl⟩ := List.mem_iff_getElem.1 hm
  have := hb k hk
  rw [List.getD_eq_getElem?_getD, List.getElem?_eq_getElem hk] at this
  simpa using this
theorem distinct_bad {c : List Sg} {i k : Nat} (hk : k < i) (hi : i < c.length) (h : c.getD k [] = c.getD i []) : distinctAt c i = false := by
  unfold distinctAt
  rw [Bool.not_eq_false', List.contains_iff_mem]
  rw [List.getD_eq_getElem?_getD, List.getElem?_eq_getElem (by omega)] at h
  simp only [Option.getD_some] at h
  rw [← h]
  exact List.mem_take_iff_getElem.2 ⟨k, by omega, rfl⟩
theorem distinct_good {c : List Sg} {i : Nat} (hi : i ≤ c.length) (h : ∀ k, k < i → c.getD k [] ≠ c.getD i []) : distinctAt c i = true := by
  unfold distinctAt
  rw [Bool.not_eq_true', ← Bool.not_eq_true, List.contains_iff_mem]
  intro hm
  obtain ⟨k, hk, he⟩ := List.mem_take_iff_getElem.1 hm
  apply h k (by omega)
  rw [← he, List.getD_eq_getElem?_getD, List.getElem?_eq_getElem (by omega)]
  rfl

/-- steps: what is taken, and what is written -/
def stepTW (kind : Int) (sent : Sg) : Option (Nat × Sg) :=
  if kind = 0 then (if sent = [] then none else some (1, sent.take 1))
  else if kind = 1 then (if sent = [] ∨ sent.getD 0 0 = 32 then none else some (1, []))
  else if kind = 2 then (if sent = [] ∨ sent.getD 0 0 ≠ 45 then none else some (1, [46, 46]))
  else if kind = 3 then (if sent.length < 2 ∨ sent.take 2 ≠ [46, 46] then none else some (2, [45]))
  else if kind = 4 then (if sent = [] ∨ sent.getD 0 0 ≠ 32 then none else some (1, []))
  else if kind = 5 then some (0, [32])
  else none
def stepR (kind : Int) (sent read : Sg) : Sg × Sg × Bool :=
  match stepTW kind sent with
  | none => ([], [], false)
  | some (t, wr) => if hasPfx read wr then (sent.drop t, read.drop wr.length, true) else ([], [], false)
def cost (kind : Int) : Int := if kind = 0 then 0 else 1

theorem getD_lt {α : Type} {l : List α} {i : Nat} {d : α} (h : i < l.length) : l.getD i d ∈ l := by
  rw [List.getD_eq_getElem?_getD, List.getElem?_eq_getElem h]; exact List.getElem_mem h
theorem isText_get {c : List Sg} {t : List Int} (h : isText c t = true) {i : Nat} (hi : i < t.length) : 0 ≤ t.getD i 0 ∧ t.getD i 0 ≤ (c.length : Int) - 1 := by
  have := List.all_eq_true.1 h _ (getD_lt (d := 0) hi)
  simpa using this

theorem joinTail_snoc (sep x : Sg) (r : List Sg) : Lib.joinTail sep (r ++ [x]) = Lib.joinTail sep r ++ (sep ++ x) := by
  simp [Lib.joinTail]
theorem join_snoc {l : List Sg} {x sep : Sg} (h : l ≠ []) : Lib.join (l ++ [x]) sep = Lib.join l sep ++ sep ++ x := by
  cases l with
  | nil => exact absurd rfl h
  | cons a r =>
    rw [List.cons_append, Lib.join_cons, Lib.join_cons, joinTail_snoc]
    simp
theorem signs_snoc {c : List Sg} {t : List Int} {n : Int} (h : t ≠ []) : signs c (t ++ [n]) = signs c t ++ [32] ++ c.getD n.toNat [] := by
  unfold signs letters
  rw [List.map_append, List.map_cons, List.map_nil]
  exact join_snoc (by simpa using h)
theorem signs_one {c : List Sg} {n : Int} : signs c [n] = c.getD n.toNat [] := by
  unfold signs letters; simp [Lib.join_one]
theorem signs_nil {c : List Sg} : signs c [] = [] := rfl
theorem take_succ_getD {t : List Int} {k : Nat} (h : k < t.length) : t.take (k + 1) = t.take k ++ [t.getD k 0] := by
  rw [List.take_add_one, List.getElem?_eq_getElem h, List.getD_eq_getElem?_getD, List.getElem?_eq_getElem h]; rfl
theorem letter_at {c : List Sg} (hc : fault c = 0) {n : Int} (h : 0 ≤ n ∧ n ≤ (c.length : Int) - 1) : 1 ≤ (c.getD n.toNat []).length ∧ (c.getD n.toNat []).length ≤ 4 :=
  letter_len ((fault_zero hc).2.2 n.toNat (by omega)).1
theorem isText_take {c : List Sg} {t : List Int} (h : isText c t = true) (k : Nat) : isText c (t.take k) = true := by
  unfold isText at *
  rw [List.all_eq_true] at *
  exact fun x hx => h x (List.mem_of_mem_take hx)
theorem signs_len {c : List Sg} (hc : fault c = 0) {t : List Int} (ht : isText c t = true) : (signs c t).length ≤ 5 * t.length := by
  have key : ∀ k, k ≤ t.length → (signs c (t.take k)).length ≤ 5 * k := by
    intro k
    induction k with
    | zero => intro _; simp [signs_nil]
    | succ k ih =>
      intro hk
      have ih := ih (by omega)
      have h3 := letter_at hc (isText_get ht (i := k) (by omega))
      rw [take_succ_getD (by omega)]
      by_cases h0 : t.take k = []
      · rw [h0, List.nil_append, signs_one]
        omega
      · rw [signs_snoc h0]
        simp only [List.length_append, List.length_cons, List.length_nil]
        omega
  have := key t.length (Nat.le_refl _)
  rwa [List.take_length] at this
end Go.Fl
