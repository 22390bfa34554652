/- Keys that are structs of an int and an array of pairs of ints. Conditions: none. -/
import Derived.Test.YtbikicakdkbcgacGreatGvB
set_option linter.unusedVariables false
set_option linter.unusedSimpArgs false
namespace Go.Gv
open Go Go.RowKit
section
variable {P : Program}
/-- what has to be known of a type of pairs of ints -/
structure PairTy (P : Program) (t st : TypeId) : Prop where
  fs : ∃ f1 f2 : Field, P.underlying t = some (.struct #[f1, f2]) ∧ (f1.name ≠ "_" ∧ f1.type = st ∧ f1.offset = 0) ∧ (f2.name ≠ "_" ∧ f2.type = st ∧ f2.offset = 1)
  int : ∃ kd, P.underlying st = some (.int kd)
  one : ∀ w, (isAgg st).run P w = .ok false w
  agg : ∀ w, (isAgg t).run P w = .ok true w
  two : ∀ w, (sizeOf t).run P w = .ok 2 w
  so : P.stoodInHeld t = false
  info : (P.info? t).isSome = true
  cells : P.cellsOf t = 2
structure SpotTy (P : Program) (t ar pt st : TypeId) : Prop where
  pair : PairTy P pt st
  fs : ∃ f1 f2 : Field, P.underlying t = some (.struct #[f1, f2]) ∧ (f1.name ≠ "_" ∧ f1.type = st ∧ f1.offset = 0) ∧ (f2.name ≠ "_" ∧ f2.type = ar ∧ f2.offset = 1)
  arr : P.underlying ar = some (.array 4 pt)
  agg : ∀ w, (isAgg ar).run P w = .ok true w
  eight : ∀ w, (sizeOf ar).run P w = .ok 8 w
  so : P.stoodInHeld t = false
variable {t ar pt st : TypeId} {w : World}
theorem equal_int {d : Nat} {kd : IntKind} (hu : P.underlying st = some (.int kd)) (x y : Int) (w : World) : (Op.equalIn (d + 1) st (vint x) (vint y)).run P w = .ok (decide (x = y)) w := by
  simp [Op.equalIn, run_underlying hu]
  exact rfl
theorem PairTy.equal (h : PairTy P t st) {d : Nat} (a b c e : Int) (w : World) : (Op.equalIn (d + 2) t (.agg ⟨[vint a, vint b]⟩) (.agg ⟨[vint c, vint e]⟩)).run P w = .ok (decide (a = c) && decide (b = e)) w := by
  obtain ⟨f1, f2, ht, ⟨hn1, ht1, ho1⟩, ⟨hn2, ht2, ho2⟩⟩ := h.fs
  obtain ⟨kd, hu⟩ := h.int
  have hp : ∀ x y : Value, (part st ⟨[x, y]⟩ 0).run P w = .ok x w := fun x y => part_cell h.one rfl
  have hq : ∀ x y : Value, (part st ⟨[x, y]⟩ 1).run P w = .ok y w := fun x y => part_cell h.one rfl
  have he : ∀ x y : Int, (Op.equalIn (d + 1) st (vint x) (vint y)).run P w = .ok (decide (x = y)) w := fun x y => equal_int hu x y w
  have hso := h.so
  unfold Op.equalIn
  simp only [Sem.run_bind, run_underlying ht, Result.andThen_ok]
  have hpr : (program).run P w = .ok P w := rfl
  simp only [Sem.run_bind, hpr, Result.andThen_ok, hso, Bool.false_eq_true, if_false]
  by_cases h1 : a = c <;> by_cases h2 : b = e <;> simp [forIn, ForIn.forIn, hn1, hn2, ht1, ht2, ho1, ho2, hp, hq, he, h1, h2]
theorem part_two (h : PairTy P t st) (cs : Array Value) (o : Nat) (w : World) : (part t cs o).run P w = .ok (.agg (cs.extract o (o + 2))) w := by
  unfold part
  simp only [Sem.run_bind, h.agg, Result.andThen_ok, if_true, h.two, Sem.run_pure]
theorem SpotTy.equalA (h : SpotTy P t ar pt st) {d : Nat} (a0 a1 a2 a3 a4 a5 a6 a7 b0 b1 b2 b3 b4 b5 b6 b7 : Int) (w : World) :
    (Op.equalIn (d + 3) ar (.agg ⟨[a0, a1, a2, a3, a4, a5, a6, a7].map vint⟩) (.agg ⟨[b0, b1, b2, b3, b4, b5, b6, b7].map vint⟩)).run P w = .ok (decide ([a0, a1, a2, a3, a4, a5, a6, a7] = [b0, b1, b2, b3, b4, b5, b6, b7])) w := by
  have he : ∀ a b c e : Int, (Op.equalIn (d + 2) pt (.agg ⟨[vint a, vint b]⟩) (.agg ⟨[vint c, vint e]⟩)).run P w = .ok (decide (a = c) && decide (b = e)) w := fun a b c e => h.pair.equal a b c e w
  obtain ⟨i, hi⟩ := Option.isSome_iff_exists.1 h.pair.info
  have hp : ∀ (cs : Array Value) (o : Nat), (part pt cs o).run P w = .ok (.agg (cs.extract o (o + 2))) w := fun cs o => part_two h.pair cs o w
  rw [run_equalIn_array w (d + 2) _ _ h.arr hi, h.pair.cells]
  have hx0 : ∀ (x0 x1 x2 x3 x4 x5 x6 x7 : Int), (⟨[x0, x1, x2, x3, x4, x5, x6, x7].map vint⟩ : Array Value).extract (0 * 2) (0 * 2 + 2) = ⟨[vint x0, vint x1]⟩ := fun _ _ _ _ _ _ _ _ => rfl
  have hx1 : ∀ (x0 x1 x2 x3 x4 x5 x6 x7 : Int), (⟨[x0, x1, x2, x3, x4, x5, x6, x7].map vint⟩ : Array Value).extract (1 * 2) (1 * 2 + 2) = ⟨[vint x2, vint x3]⟩ := fun _ _ _ _ _ _ _ _ => rfl
  have hx2 : ∀ (x0 x1 x2 x3 x4 x5 x6 x7 : Int), (⟨[x0, x1, x2, x3, x4, x5, x6, x7].map vint⟩ : Array Value).extract (2 * 2) (2 * 2 + 2) = ⟨[vint x4, vint x5]⟩ := fun _ _ _ _ _ _ _ _ => rfl
  have hx3 : ∀ (x0 x1 x2 x3 x4 x5 x6 x7 : Int), (⟨[x0, x1, x2, x3, x4, x5, x6, x7].map vint⟩ : Array Value).extract (3 * 2) (3 * 2 + 2) = ⟨[vint x6, vint x7]⟩ := fun _ _ _ _ _ _ _ _ => rfl
  rw [show List.range 4 = [0, 1, 2, 3] from rfl]
  simp only [Op.eqItems, Sem.run_bind, hp, Result.andThen_ok, hx0, hx1, hx2, hx3, he]
  by_cases h0 : a0 = b0 ∧ a1 = b1 <;> by_cases h1 : a2 = b2 ∧ a3 = b3 <;> by_cases h2 : a4 = b4 ∧ a5 = b5 <;> by_cases h3 : a6 = b6 ∧ a7 = b7
  all_goals (simp only [← Bool.decide_and, h0, h1, h2, h3, decide_true, decide_false, Bool.not_true, Bool.not_false, Bool.false_eq_true, if_false, if_true, Sem.run_pure]; congr 1; symm; (try simp only [decide_eq_true_eq, decide_eq_false_iff_not, List.cons.injEq]); simp_all)
theorem list_eight {l : List Int} (h : l.length = 8) : ∃ a0 a1 a2 a3 a4 a5 a6 a7, l = [a0, a1, a2, a3, a4, a5, a6, a7] := by
  match l, h with
  | [a0, a1, a2, a3, a4, a5, a6, a7], _ => exact ⟨a0, a1, a2, a3, a4, a5, a6, a7, rfl⟩
theorem SpotTy.equalS (h : SpotTy P t ar pt st) {d : Nat} {xs ys : List Int} (hx : xs.length = 8) (hy : ys.length = 8) (w : World) : (Op.equalIn (d + 3) ar (.agg ⟨xs.map vint⟩) (.agg ⟨ys.map vint⟩)).run P w = .ok (decide (xs = ys)) w := by
  obtain ⟨a0, a1, a2, a3, a4, a5, a6, a7, rfl⟩ := list_eight hx
  obtain ⟨b0, b1, b2, b3, b4, b5, b6, b7, rfl⟩ := list_eight hy
  exact h.equalA a0 a1 a2 a3 a4 a5 a6 a7 b0 b1 b2 b3 b4 b5 b6 b7 w
theorem SpotTy.partA (h : SpotTy P t ar pt st) {x : Int} {xs : List Int} (hx : xs.length = 8) (w : World) : (part ar ⟨(x :: xs).map vint⟩ 1).run P w = .ok (.agg ⟨xs.map vint⟩) w := by
  unfold part
  simp only [Sem.run_bind, h.agg, Result.andThen_ok, if_true, h.eight, Sem.run_pure]
  obtain ⟨a0, a1, a2, a3, a4, a5, a6, a7, rfl⟩ := list_eight hx
  rfl
theorem SpotTy.equal (h : SpotTy P t ar pt st) {x y : Int} {xs ys : List Int} (hx : xs.length = 8) (hy : ys.length = 8) (w : World) : (Op.equal t (.agg ⟨(x :: xs).map vint⟩) (.agg ⟨(y :: ys).map vint⟩)).run P w = .ok (decide (x :: xs = y :: ys)) w := by
  obtain ⟨f1, f2, ht, ⟨hn1, ht1, ho1⟩, ⟨hn2, ht2, ho2⟩⟩ := h.fs
  obtain ⟨kd, hu⟩ := h.pair.int
  have hp : ∀ (z : Int) (l : List Int), (part st ⟨(z :: l).map vint⟩ 0).run P w = .ok (vint z) w := fun z l => part_cell h.pair.one rfl
  have hqx := h.partA (x := x) hx w
  have hqy := h.partA (x := y) hy w
  have he : ∀ x y : Int, (Op.equalIn 9999 st (vint x) (vint y)).run P w = .ok (decide (x = y)) w := fun x y => equal_int (d := 9998) hu x y w
  have hes := h.equalS (d := 9996) hx hy w
  have hso := h.so
  unfold Op.equal Op.maxDepth Op.equalIn
  simp only [Sem.run_bind, run_underlying ht, Result.andThen_ok]
  have hpr : (program).run P w = .ok P w := rfl
  simp only [Sem.run_bind, hpr, Result.andThen_ok, hso, Bool.false_eq_true, if_false]
  by_cases h1 : x = y <;> by_cases h2 : xs = ys
  · subst h1 h2
    simp only [List.forIn_toArray, List.forIn_cons, List.forIn_nil, Sem.run_bind, ht1, ht2, ho1, ho2, hn1, hn2, hp, hqx, hqy, he, hes, ne_eq, not_false_eq_true, if_true, Result.andThen_ok, Sem.run_pure, decide_true, Bool.not_true, Bool.false_eq_true, if_false]
  · subst h1
    simp only [List.forIn_toArray, List.forIn_cons, List.forIn_nil, Sem.run_bind, ht1, ht2, ho1, ho2, hn1, hn2, hp, hqx, hqy, he, hes, ne_eq, not_false_eq_true, if_true, Result.andThen_ok, Sem.run_pure, decide_true, Bool.not_true, Bool.false_eq_true, if_false, decide_eq_false h2, Bool.not_false, List.cons.injEq, true_and]
  · simp only [List.forIn_toArray, List.forIn_cons, List.forIn_nil, Sem.run_bind, ht1, ht2, ho1, ho2, hn1, hn2, hp, hqx, hqy, he, hes, ne_eq, not_false_eq_true, if_true, Result.andThen_ok, Sem.run_pure, decide_true, Bool.not_true, Bool.false_eq_true, if_false, decide_eq_false h1, Bool.not_false, List.cons.injEq, h1, false_and, decide_false]
  · simp only [List.forIn_toArray, List.forIn_cons, List.forIn_nil, Sem.run_bind, ht1, ht2, ho1, ho2, hn1, hn2, hp, hqx, hqy, he, hes, ne_eq, not_false_eq_true, if_true, Result.andThen_ok, Sem.run_pure, decide_true, Bool.not_true, Bool.false_eq_true, if_false, decide_eq_false h1, Bool.not_false, List.cons.injEq, h1, false_and, decide_false]
theorem checkKey_int {em : Bool} {n : Nat} {kd : IntKind} (hu : P.underlying st = some (.int kd)) (x : Int) (w : World) : (Instr.checkKey em (n + 1) st (vint x)).run P w = .ok () w := by
  simp [Instr.checkKey, run_underlying hu]
theorem PairTy.key (h : PairTy P t st) {em : Bool} {n : Nat} (a b : Int) (w : World) : (Instr.checkKey em (n + 2) t (.agg ⟨[vint a, vint b]⟩)).run P w = .ok () w := by
  obtain ⟨f1, f2, ht, ⟨hn1, ht1, ho1⟩, ⟨hn2, ht2, ho2⟩⟩ := h.fs
  obtain ⟨kd, hu⟩ := h.int
  have hp : ∀ x y : Value, (part st ⟨[x, y]⟩ 0).run P w = .ok x w := fun x y => part_cell h.one rfl
  have hq : ∀ x y : Value, (part st ⟨[x, y]⟩ 1).run P w = .ok y w := fun x y => part_cell h.one rfl
  have hc : ∀ x : Int, (Instr.checkKey em (n + 1) st (vint x)).run P w = .ok () w := fun x => checkKey_int hu x w
  rw [Instr.checkKey]
  simp only [Sem.run_bind, run_underlying ht, Result.andThen_ok]
  simp only [List.forIn_toArray, List.forIn_cons, List.forIn_nil, Sem.run_bind, ht1, ht2, ho1, ho2, hn1, hn2, hp, hq, hc, ne_eq, not_false_eq_true, if_true, Result.andThen_ok, Sem.run_pure]
theorem SpotTy.keyA (h : SpotTy P t ar pt st) {em : Bool} {n : Nat} {xs : List Int} (hx : xs.length = 8) (w : World) : (Instr.checkKey em (n + 3) ar (.agg ⟨xs.map vint⟩)).run P w = .ok () w := by
  obtain ⟨a0, a1, a2, a3, a4, a5, a6, a7, rfl⟩ := list_eight hx
  have hc : ∀ a b : Int, (Instr.checkKey em (n + 2) pt (.agg ⟨[vint a, vint b]⟩)).run P w = .ok () w := fun a b => h.pair.key a b w
  have hp : ∀ (cs : Array Value) (o : Nat), (part pt cs o).run P w = .ok (.agg (cs.extract o (o + 2))) w := fun cs o => part_two h.pair cs o w
  have hx0 : (⟨[a0, a1, a2, a3, a4, a5, a6, a7].map vint⟩ : Array Value).extract (0 * 2) (0 * 2 + 2) = ⟨[vint a0, vint a1]⟩ := rfl
  have hx1 : (⟨[a0, a1, a2, a3, a4, a5, a6, a7].map vint⟩ : Array Value).extract (1 * 2) (1 * 2 + 2) = ⟨[vint a2, vint a3]⟩ := rfl
  have hx2 : (⟨[a0, a1, a2, a3, a4, a5, a6, a7].map vint⟩ : Array Value).extract (2 * 2) (2 * 2 + 2) = ⟨[vint a4, vint a5]⟩ := rfl
  have hx3 : (⟨[a0, a1, a2, a3, a4, a5, a6, a7].map vint⟩ : Array Value).extract (3 * 2) (3 * 2 + 2) = ⟨[vint a6, vint a7]⟩ := rfl
  rw [Instr.checkKey]
  simp only [Sem.run_bind, run_underlying h.arr, Result.andThen_ok]
  simp only [Std.Legacy.Range.forIn_eq_forIn_range', Std.Legacy.Range.size, Nat.sub_zero, Nat.add_one_sub_one, Nat.div_one]
  rw [show List.range' 0 4 1 = [0, 1, 2, 3] from rfl]
  simp only [List.forIn_cons, List.forIn_nil, Sem.run_bind, h.pair.two, hp, Result.andThen_ok, hx0, hx1, hx2, hx3, hc, Sem.run_pure]
theorem SpotTy.key (h : SpotTy P t ar pt st) {em : Bool} {x : Int} {xs : List Int} (hx : xs.length = 8) (w : World) : (Instr.checkKey em 10000 t (.agg ⟨(x :: xs).map vint⟩)).run P w = .ok () w := by
  obtain ⟨f1, f2, ht, ⟨hn1, ht1, ho1⟩, ⟨hn2, ht2, ho2⟩⟩ := h.fs
  obtain ⟨kd, hu⟩ := h.pair.int
  have hp : (part st ⟨(x :: xs).map vint⟩ 0).run P w = .ok (vint x) w := part_cell h.pair.one rfl
  have hq := h.partA (x := x) hx w
  have hc : (Instr.checkKey em 9999 st (vint x)).run P w = .ok () w := checkKey_int (n := 9998) hu x w
  have hk := h.keyA (em := em) (n := 9996) hx w
  rw [Instr.checkKey]
  simp only [Sem.run_bind, run_underlying ht, Result.andThen_ok]
  simp only [List.forIn_toArray, List.forIn_cons, List.forIn_nil, Sem.run_bind, ht1, ht2, ho1, ho2, hn1, hn2, hp, hq, hc, hk, ne_eq, not_false_eq_true, if_true, Result.andThen_ok, Sem.run_pure]
theorem sameBits_ints (xs : List Int) : Instr.sameBits 10000 (.agg ⟨xs.map vint⟩) (.agg ⟨xs.map vint⟩) = true := by
  have h1 : ∀ (n : Nat) (x : Int), Instr.sameBits n (vint x) (vint x) = true := fun n x => by cases n <;> simp [Instr.sameBits]
  have h2 : ∀ (n : Nat) (l : List Int), ((l.map vint).zip (l.map vint)).all (fun (x, y) => Instr.sameBits n x y) = true := fun n l => by
    induction l with
    | nil => rfl
    | cons x l ih => simp only [List.map_cons, List.zip_cons_cons, List.all_cons, h1, ih, Bool.and_self]
  rw [Instr.sameBits]
  simp only [beq_self_eq_true, Bool.true_and]
  exact h2 9999 xs
section
variable {ops : Array Oper} {e : Env} {w : World}
variable {d : Option Nat} {ty : TypeId} {pos : String} {af : Array Edge} {g : Option (Nat × Bool)}
end
end
/-- no cells lie at l -/
def Uncell (w : World) (l : Nat) : Prop := ∀ c T fr, w.heap[l]? ≠ some (.cells c T fr)
theorem MapAt.unc {w : World} {m clock : Nat} {es : List MapEntry} (h : MapAt w m es clock) : Uncell w m := fun c T fr h2 => by
  have h3 : w.heap[m]? = some (.map es.toArray clock) := h
  rw [h3] at h2; cases h2
theorem LoopAt.unc {w : World} {l : Nat} {s : LoopState} {p : Option Code} {f : FuncId} {n : Nat} {e : Env} {ps : List Tmp} {x y : Code} (h : LoopAt w l s p f n e ps x y) : Uncell w l := fun c T fr h2 => by
  obtain ⟨t, db, h1, _⟩ := h
  rw [h1] at h2; cases h2
theorem own_unc {w w' : World} {base e size n l : Nat} {v : Value} {xs : List Value} (h : w.ownsRow base e size v n xs) (hl : Uncell w l) (hg : w.grownBy w' (some l)) : w'.ownsRow base e size v n xs :=
  own_keepB h (fun g hgv => hg.block g (h.lt g hgv).2 (fun he => by
    have h3 : g = l := by injection he
    subst h3
    rcases h.2 with ⟨h1, _⟩ | ⟨g2, cap, cur, h1, _, h2, _⟩
    · rw [h1] at hgv; cases hgv
    · rw [h1] at hgv
      cases hgv
      exact hl _ _ _ h2))
theorem OwnsI.unc {w w' : World} {B el l : Nat} {R : List SV} (h : OwnsI w B el R) (hl : Uncell w l) (hg : w.grownBy w' (some l)) : OwnsI w' B el R := fun s hs => own_unc (h s hs) hl hg
theorem Blk.unc {w w' : World} {b l : Nat} {cs : List Value} (h : Blk w b cs) (hl : Uncell w l) (hg : w.grownBy w' (some l)) : Blk w' b cs := by
  by_cases hb : b = l
  · subst hb
    obtain ⟨T, hT⟩ := h
    exact absurd hT (hl _ _ _)
  · exact h.upd hg hb
theorem Row.frS {S : Nat → Prop} {w w' : World} {a : Option Addr} {n c sz : Nat} {cs : List Value} (h : Row w a n c sz cs) (hF : FrS S w w') (hne : cs ≠ [] → ∀ x, a = some x → ¬ S x.block) : Row w' a n c sz cs := by
  refine ⟨h.1, h.2.1, ?_⟩
  rcases h.2.2 with h0 | ⟨b, o, ha, hc⟩
  · exact .inl h0
  · by_cases h0 : cs = []
    · exact .inl h0
    · refine .inr ⟨b, o, ha, fun j v hj => ?_⟩
      have h1 := hc j v hj
      have hlt : b < w.heap.size := by
        rcases Nat.lt_or_ge b w.heap.size with h7 | h7
        · exact h7
        · unfold Has World.cell? at h1
          rw [Array.getElem?_eq_none h7] at h1; cases h1
      show w'.cell? _ = _
      unfold World.cell?
      rw [hF.keep b hlt (hne h0 _ ha)]
      exact h1
end Go.Gv
