/-
  FOR A PROOF OF AN '..UptoSaid': WHAT THE BOUND GIVES. Copy it as <Name>Bulk.lean (put your seat's Name for YtbikicakdkbcgacGreat, the bound of 'uptoSmall' for 1048576), name it in GOCLAIM.json's 'order' behind <Name>Rows. By an AI agent, Sun Nov 15 2026. No person has read it. No macro, syntax, notation, axiom, sorry.
-/
import Derived.Test.YtbikicakdkbcgacGreatRows
import Derived.Test.YtbikicakdkbcgacGreatGvO
set_option linter.unusedVariables false
set_option linter.unusedSimpArgs false
namespace Go.Proofs.YtbikicakdkbcgacGreat.bulks

theorem one_le {H : Type} (d : DataW H) : 1 ≤ Rows.uptoBulk d := by
  cases d with
  | lit l => cases l <;> simp [Rows.uptoBulk]
  | nil => simp [Rows.uptoBulk]
  | ptr d => simp [Rows.uptoBulk]
  | slice elems spare => simp [Rows.uptoBulk]
  | agg parts => simp [Rows.uptoBulk]
  | iface t d => simp [Rows.uptoBulk]
  | map entries => simp [Rows.uptoBulk]
  | held h => simp [Rows.uptoBulk]

/-- a part's bulk is at most the whole's -/
theorem part_le {H : Type} {d : DataW H} {l : List (DataW H)} (h : d ∈ l) : Rows.uptoBulk d ≤ Rows.uptoBulkAll l := by
  induction l with
  | nil => cases h
  | cons x r ih =>
    simp only [Rows.uptoBulkAll]
    cases List.mem_cons.1 h with
    | inl e => subst e; omega
    | inr e => have := ih e; omega

theorem append {H : Type} (l r : List (DataW H)) : Rows.uptoBulkAll (l ++ r) = Rows.uptoBulkAll l + Rows.uptoBulkAll r := by
  induction l with
  | nil => simp [Rows.uptoBulkAll]
  | cons x l ih => simp only [List.cons_append, Rows.uptoBulkAll, ih]; omega

/-- so many values at the most -/
theorem length_le {H : Type} (l : List (DataW H)) : l.length ≤ Rows.uptoBulkAll l := by
  induction l with
  | nil => simp [Rows.uptoBulkAll]
  | cons x r ih => have := one_le x; simp only [Rows.uptoBulkAll, List.length_cons]; omega

/-- a slice's places, and what they hold -/
theorem slice_le {H : Type} (elems spare : List (DataW H)) : elems.length + spare.length + 1 ≤ Rows.uptoBulk (.slice elems spare) := by
  have h1 := length_le elems
  have h2 := length_le spare
  simp only [Rows.uptoBulk]
  omega
theorem slice_elems {H : Type} (elems spare : List (DataW H)) : Rows.uptoBulkAll elems + 1 ≤ Rows.uptoBulk (.slice elems spare) := by
  simp only [Rows.uptoBulk]
  omega

/-- a string's letters -/
theorem string_eq {H : Type} (bytes : List UInt8) : Rows.uptoBulk (DataW.lit (H := H) (.string bytes)) = bytes.length + 1 := by
  simp [Rows.uptoBulk]

/-- THE BOUND, as the builder hands it over ('hk') -/
theorem bound {H : Type} {l : List (DataW H)} (hk : Rows.uptoSmall H l = true) : Rows.uptoBulkAll l ≤ 1048576 := by
  simpa [Rows.uptoSmall] using hk

/-- ROOM: a slice of n elements of b bytes, grown by append: below the 2^48 bytes that append, make and a Builder bear. Here n up to 2^21, b up to 4,096: put your own numbers. -/
theorem room {n b : Nat} (hn : n ≤ 2097152) (hb : b ≤ 4096) : (n + n / 4 + 192) * b ≤ 281474976710656 := by
  have h : (n + n / 4 + 192) * b ≤ 2621632 * 4096 := Nat.mul_le_mul (by omega) hb
  omega

theorem u8_rng {n : Int} (h : (Lit.int .u8 n).wf = true) : 0 ≤ n ∧ n ≤ 255 := by simpa [Lit.wf, IntKind.min, IntKind.max, IntKind.signed, IntKind.bits] using h
theorem u16_rng {n : Int} (h : (Lit.int .u16 n).wf = true) : 0 ≤ n ∧ n ≤ 65535 := by simpa [Lit.wf, IntKind.min, IntKind.max, IntKind.signed, IntKind.bits] using h
theorem i64_rng {n : Int} (h : (Lit.int .i64 n).wf = true) : -9223372036854775808 ≤ n ∧ n ≤ 9223372036854775807 := by simpa [Lit.wf, IntKind.min, IntKind.max, IntKind.signed, IntKind.bits] using h
theorem ints_le {H : Type} {d : DataW H} {xs : List Int} {k : IntKind} {m : Nat} (h : (d = .nil ∧ xs = []) ∨ ∃ ys, d = .slice (ChangeShapes.lits k xs) (ChangeShapes.lits k ys)) (hb : Rows.uptoBulk d ≤ m) : xs.length ≤ m := by
  rcases h with ⟨_, rfl⟩ | ⟨ys, rfl⟩
  · simp
  · have := slice_le (H := H) (ChangeShapes.lits k xs) (ChangeShapes.lits k ys)
    have hl : (ChangeShapes.lits (H := H) k xs).length = xs.length := by simp [ChangeShapes.lits]
    omega
theorem code_le {H : Type} {d : DataW H} {xs : List (List UInt8)} {m : Nat} (h : (d = .nil ∧ xs = []) ∨ ∃ ys, d = .slice (xs.map fun s => .lit (.string s)) ys) (hb : Rows.uptoBulk (DataW.agg [d]) ≤ m) : xs.length ≤ m ∧ ∀ s ∈ xs, s.length ≤ m := by
  have hd : Rows.uptoBulk d ≤ m := by
    simp only [Rows.uptoBulk, Rows.uptoBulkAll] at hb; omega
  rcases h with ⟨_, rfl⟩ | ⟨ys, rfl⟩
  · simp
  · have h1 := slice_le (H := H) (xs.map fun s => .lit (.string s)) ys
    have h2 := slice_elems (H := H) (xs.map fun s => .lit (.string s)) ys
    rw [List.length_map] at h1
    refine ⟨by omega, fun s hs => ?_⟩
    have h3 := part_le (d := DataW.lit (H := H) (.string s)) (l := xs.map fun s => .lit (.string s)) (List.mem_map.2 ⟨s, hs, rfl⟩)
    rw [string_eq] at h3
    omega
theorem rows_le {H : Type} {d : DataW H} {L : List Gv.SV} {m : Nat} (h : (d = .nil ∧ L = []) ∨ ∃ ds ys, d = .slice ds ys ∧ ds.length = L.length ∧ ∀ i, i < L.length → ∀ m, (∀ d ∈ ds, ∀ es zs, d = DataW.slice es zs → es.length ≤ m) → (L.getD i Gv.sv0).xs.length ≤ m) (hb : Rows.uptoBulk d ≤ m) :
    L.length ≤ m ∧ ∀ s ∈ L, s.xs.length ≤ m := by
  rcases h with ⟨_, rfl⟩ | ⟨ds, ys, rfl, hl, hall⟩
  · simp
  · have h1 := slice_le (H := H) ds ys
    have h2 := slice_elems (H := H) ds ys
    refine ⟨by omega, fun s hs => ?_⟩
    obtain ⟨i, hi, rfl⟩ := List.mem_iff_getElem.1 hs
    have := hall i hi m (fun d hd es zs he => by
      subst he
      have h3 := part_le hd
      have h4 := slice_le (H := H) es zs
      omega)
    rw [List.getD_eq_getElem?_getD, List.getElem?_eq_getElem hi] at this
    exact this
end Go.Proofs.YtbikicakdkbcgacGreat.bulks
namespace Go.Proofs.YtbikicakdkbcgacGreat.bulks
theorem wide_le {H α : Type} {d : DataW H} {xs : List α} {m : Nat} {q : α → DataW H → Prop} (h : (d = .nil ∧ xs = []) ∨ ∃ ds ys, d = .slice ds ys ∧ ds.length = xs.length ∧ ∀ y ∈ xs, ∃ d ∈ ds, q y d) (hb : Rows.uptoBulk d ≤ m) : xs.length ≤ m := by
  rcases h with ⟨_, rfl⟩ | ⟨ds, ys, rfl, hl, _⟩
  · simp
  · have := slice_le (H := H) ds ys
    omega
theorem wide_all {H α : Type} {d : DataW H} {xs : List α} {m : Nat} {q : α → DataW H → Prop} (h : (d = .nil ∧ xs = []) ∨ ∃ ds ys, d = .slice ds ys ∧ ds.length = xs.length ∧ ∀ y ∈ xs, ∃ d ∈ ds, q y d) (hb : Rows.uptoBulk d ≤ m) : ∀ y ∈ xs, ∃ d, q y d ∧ Rows.uptoBulk d ≤ m := by
  intro y hy
  rcases h with ⟨_, rfl⟩ | ⟨ds, ys, rfl, hl, hall⟩
  · simp at hy
  · obtain ⟨d, hd, hq⟩ := hall y hy
    have h1 := slice_elems (H := H) ds ys
    have h2 := part_le hd
    exact ⟨d, hq, by omega⟩
theorem agg_part {H : Type} {d : DataW H} {l : List (DataW H)} {m : Nat} (h : d ∈ l) (hb : Rows.uptoBulk (DataW.agg l) ≤ m) : Rows.uptoBulk d ≤ m := by
  have := part_le h
  simp only [Rows.uptoBulk] at hb
  omega
theorem bools_le {H : Type} {d : DataW H} {xs : List Bool} {m : Nat} (h : (d = .nil ∧ xs = []) ∨ ∃ ds ys, d = .slice ds ys ∧ ds.length = xs.length) (hb : Rows.uptoBulk d ≤ m) : xs.length ≤ m := by
  rcases h with ⟨_, rfl⟩ | ⟨ds, ys, rfl, hl⟩
  · simp
  · have := slice_le (H := H) ds ys
    omega
theorem text_le {H : Type} {d : DataW H} {s : List UInt8} {m : Nat} (h : d = .lit (.string s)) (hb : Rows.uptoBulk d ≤ m) : s.length ≤ m := by
  subst h; rw [string_eq] at hb; omega
end Go.Proofs.YtbikicakdkbcgacGreat.bulks
