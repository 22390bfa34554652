/- copy of ints into a block of one's own. Conditions: none. -/
import Derived.Test.YtbikicakdkbcgaaGvSpot
import Derived.Laws.CopyRow
import Derived.Laws.IdiomCopy
set_option linter.unusedVariables false
set_option linter.unusedSimpArgs false
namespace Go.Gv
open Go Go.RowKit
section
variable {P : Program} {ops : Array Oper} {e : Env} {w : World}
variable {d : Option Nat} {ty : TypeId} {pos : String} {af : Array Edge} {g : Option (Nat × Bool)}
theorem o_copy {K : Value → World → Prop} {t t2 el : TypeId} {at_ : Array TypeId} {x y : Operand} {b n c c2 : Nat} {a : Option Addr} {vs xs : List Int} (ht : P.underlying t = some (.slice el)) (hs : (P.info? el).map (·.size) = some 1) (hat : at_ = #[t, t2])
    (hx : ev e x = .slice (some ⟨b, 0, none⟩) n c) (hb : Blk w b (vs.map vint)) (hy : ev e y = .slice a xs.length c2) (hrow : Row w a xs.length c2 1 (xs.map vint)) (hn : xs.length ≤ n) (hv : n ≤ vs.length)
    (hw : wantedE ops e ⟨d, .call ⟨.builtin .copy, #[x, y], at_⟩, ty, pos, af, g⟩ = true)
    (h : ∀ w', w'.heap.size = w.heap.size → Blk w' b ((xs ++ vs.drop xs.length).map vint) → w.grownBy w' (some b) → K (vint (xs.length : Int)) w') :
    EffAt P ops e w ⟨d, .call ⟨.builtin .copy, #[x, y], at_⟩, ty, pos, af, g⟩ K := by
  subst hat
  by_cases h0 : xs = []
  · subst h0
    have hr := run_copy_none (P := P) w t t2 ty el (some ⟨b, 0, none⟩) a n c 0 c2 ht hs (Nat.zero_min _)
    refine e_value (v := vint 0) (w' := w) hw rfl ?_ (h w rfl (by simpa using hb) ⟨rfl, rfl, rfl, Nat.le_refl _, fun _ _ _ => rfl⟩)
    have hy2 : ev e y = .slice a 0 c2 := hy
    simp [execOp, resolve, invoke, builtin, hx, hy2, hr]
    rfl
  · rcases hrow.2.2 with h1 | ⟨b2, o2, ha, hc⟩
    · exact absurd (List.map_eq_nil_iff.1 h1) h0
    · subst ha
      obtain ⟨T, hT⟩ := hb
      have hmin : (xs.map vint).length = Nat.min xs.length n := by rw [List.length_map]; exact (Nat.min_eq_left hn).symm
      have hr := run_copy_row (P := P) w t t2 ty el b 0 n c ⟨b2, o2, none⟩ xs.length c2 ⟨vs.map vint⟩ T (xs.map vint) ht hs hT hmin (fun j u hj => by rw [Addr.add_lit]; exact hc j u hj) (by simp; omega) (fun u hu => by obtain ⟨i, _, rfl⟩ := List.mem_map.1 hu; rfl)
      have hcs : (vs.map vint).take 0 ++ xs.map vint ++ (vs.map vint).drop (0 + (xs.map vint).length) = (xs ++ vs.drop xs.length).map vint := by
        rw [List.take_zero, List.nil_append, Nat.zero_add, List.length_map, List.map_append, List.map_drop]
      simp only [hcs] at hr
      rw [List.length_map] at hr
      refine e_value (v := vint (xs.length : Int)) (w' := w.setRow b ⟨(xs ++ vs.drop xs.length).map vint⟩) hw rfl ?_ (h _ (by simp) ⟨T, setRow_heap w b _ _ T _ hT⟩ ⟨rfl, rfl, rfl, by simp, fun k _ hk => setRow_other w b k _ (fun e => hk (by simp [e]))⟩)
      simp [execOp, resolve, invoke, builtin, hx, hy, hr]
      rfl
end
end Go.Gv
