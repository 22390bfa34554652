/- Arguments, opened as rows; the end of a law's proof, for any law that answers true and turns nothing. Conditions: none. -/
import Derived.Test.YtbikicakdkbcgacGreatGvA
import Derived.ProofKit
import Derived.OpenShut
import Derived.ReadAgain
import Derived.ChangeSlices
import Derived.SliceStrings
import Derived.ChangeMaps5
import Derived.Deep.Matrix
import Derived.Below
import Derived.ChangeSame
import Derived.Test.YtbikicakdkbcgacGreatGvB
import Derived.Lib.SmallJoins
import Derived.Deep.Strs
set_option linter.unusedVariables false
set_option linter.unusedSimpArgs false
namespace Go.Gv
open Go Go.RowKit Go.WideShapes Go.ChangeShapes

section
variable {H : Type} {enc : TypeId × Value → H} {P : Program} {w w' : World}

theorem trodAll_carry : ∀ {ts : List TypeId} {vs : List Value} {ds : List (DataW H)} {ps : List MemPlace} {sp : Nat → Bool}, DataW.TrodAll enc P w 0 sp true ts vs ds ps → (∀ p ∈ ps, w.sameAt w' p) → DataW.TrodAll enc P w' 0 sp true ts vs ds ps
  | [], [], [], _, _, h, _ => h
  | _ :: _, _ :: _, _ :: _, _, _, ⟨p, q, ⟨n, h1⟩, h2, e⟩, hs => ⟨p, q, ⟨n, DataW.trod_carry n _ _ _ h1 (fun x hx => hs x (by rw [e]; exact List.mem_append_left _ hx))⟩, trodAll_carry h2 (fun x hx => hs x (by rw [e]; exact List.mem_append_right _ hx)), e⟩

theorem post_of_below {f : Func} {s : ChangeSpec} {apart fresh handsOn again : Bool} {W W' : World} {args : Array Value} {v : Value} {ds gs : List (DataW H)} {before pa pv : List MemPlace}
    (hW : DataW.Whole enc P f.params.toList s.vars apart W args.toList ds gs before)
    (hres : ∀ (b : Nat) (sp : Nat → Bool) (hd : Bool), DataW.TrodAll enc P W' b sp hd f.resultTypes.toList (v.resultList f.resultTypes.size) (s.fn H (ds ++ gs)).results [])
    (hargs : ∀ sp : Nat → Bool, (∀ p ∈ before, sp p.block = true) → DataW.TrodAll enc P W' 0 sp true f.params.toList args.toList (s.fn H (ds ++ gs)).args pa)
    (hvars : ∀ sp : Nat → Bool, (∀ p ∈ before, sp p.block = true) → DataW.TrodVars enc P W' sp s.vars (s.fn H (ds ++ gs)).vars pv)
    (hps : before = pa ++ pv) (hb : Below W.heap.size W W')
    (hok : ∀ (j : Nat) (t : TypeId) (r : Value), f.resultTypes[j]? = some t → (v.resultList f.resultTypes.size)[j]? = some r → Value.okWide P W' .any 0 t r) :
    s.post enc P f apart fresh handsOn again W args v W' := by
  have hlt : ∀ p ∈ before, p.block < W.heap.size := fun p hp => hW.lt p hp
  have hold : ∀ p ∈ before, (fun b => decide (b < W.heap.size)) p.block = true := fun p hp => by simpa using hlt p hp
  refine ⟨ds, gs, before, [], pa, pv, hW, hres _ _ _, hargs _ hold, hvars _ hold, World.keptBut_mono (fun p hp => ⟨hp, ?_⟩) (hb.frame (· ∈ before)), fun _ => ?_⟩
  · rw [hps, List.mem_append] at hp
    exact Or.inr hp
  · obtain ⟨_, _, _, _, _, hz, hn⟩ := hW
    refine ⟨hok, _, _, ([] ++ pa) ++ pv, ⟨[] ++ pa, pv, trodAll_append (hargs _ (fun _ _ => rfl)) (hres _ _ _), hvars _ (fun _ _ => rfl), rfl, ?_, ?_⟩, ?_⟩
    · intro b off hp
      have hin : MemPlace.cell b off ∈ before := by rw [hps]; simpa using hp
      rw [hb.frozen (hlt _ hin)]
      exact hz b off hin
    · intro ha
      have := hn ha
      rw [hps] at this
      simpa using this
    · intro p hp _
      rw [hps]
      simpa using hp

/-- a law that answers true and turns nothing -/
theorem post_law {f : Func} {s : ChangeSpec} {apart fresh handsOn again : Bool} {W W' : World} {args : Array Value} {ds gs : List (DataW H)} {before : List MemPlace} {tb : TypeId}
    (kids : Kids P (· < P.types.size)) (full : ∀ t e, t < P.types.size → P.underlying t = some (.slice e) → 0 < P.cellsOf e) (hparams : ∀ t ∈ f.params.toList, t < P.types.size)
    (hvars : s.vars = []) (hrt : f.resultTypes = #[tb]) (htb : P.underlying tb = some .bool)
    (hW : DataW.Whole enc P f.params.toList s.vars apart W args.toList ds gs before)
    (hfr : (s.fn H (ds ++ gs)).results = [.lit (.bool true)]) (hfa : (s.fn H (ds ++ gs)).args = ds) (hfv : (s.fn H (ds ++ gs)).vars = []) (hE : Ext W W') :
    s.post enc P f apart fresh handsOn again W args (.bool true) W' := by
  have hW' := hW
  obtain ⟨p, q, hA, hV, rfl, _, _⟩ := hW
  rw [hvars] at hV
  obtain ⟨hg, hq⟩ := trodVars_none hV
  have hlt : ∀ x ∈ p ++ q, x.block < W.heap.size := fun x hx => hW'.lt x hx
  have hB := hE.below
  refine post_of_below (pa := p) (pv := []) hW' (fun b sp hd => ?_) (fun sp hsp => ?_) (fun sp _ => ?_) (by rw [hq]) hB ?_
  · rw [hrt, hfr]
    exact trodAll_cons_mk (shut_bool htb true) trodAll_mk0
  · rw [hfa]
    exact DataW.TrodAll.respare kids full hparams (trodAll_carry hA (fun x hx => hB.same (hlt x (List.mem_append_left _ hx)))) (fun x hx => hsp x (List.mem_append_left _ hx))
  · rw [hvars, hfv]; rfl
  · exact ok_one hrt rfl (okWide_bool_mk htb true)

/-- a cell that is there has no spot -/
theorem spot_none {a : Addr} {v : Value} (h : w.cell? a = some v) : a = ⟨a.block, a.off, none⟩ := by
  unfold World.cell? at h
  split at h
  · split at h
    · cases h
    · rename_i hs
      cases a with
      | mk b o s => cases s with
        | none => rfl
        | some s => simp at hs
  · cases h
theorem row_of_cells {α : Type} {f : α → Value} {a : Addr} {n c : Nat} {zs : List α} {d : α} (hz : n ≤ zs.length) (hc : n ≤ c) (hcell : ∀ i, i < zs.length → w.cell? (a.add i) = some (f (zs.getD i d))) :
    Row w (some a) (zs.take n).length c 1 ((zs.take n).map f) := by
  have hl : (zs.take n).length = n := by rw [List.length_take]; omega
  refine ⟨by simp, by omega, ?_⟩
  by_cases h0 : n = 0
  · left; subst h0; simp
  · right
    have h1 := hcell 0 (by omega)
    rw [show a.add 0 = a from by simp [Addr.add]] at h1
    have ha := spot_none h1
    refine ⟨a.block, a.off, by rw [← ha], fun j v hj => ?_⟩
    rw [List.getElem?_map, List.getElem?_take] at hj
    split at hj
    · rename_i hjn
      have h2 := hcell j (by omega)
      rw [List.getElem?_eq_getElem (by omega)] at hj
      simp only [Option.map_some, Option.some.injEq] at hj
      rw [List.getD_eq_getElem?_getD, List.getElem?_eq_getElem (by omega)] at h2
      simp only [Option.getD_some] at h2
      rw [hj] at h2
      rw [ha, Addr.add_lit] at h2
      exact h2
    · cases hj

/-- []int (or a slice of another kind of integer) -/
theorem open_row_ints {t e : TypeId} {k : IntKind} {fuel : Nat} {u : Value} {x : DataW H × List MemPlace} (ht : P.underlying t = some (.slice e)) (he : P.underlying e = some (.int k)) (hc : P.cellsOf e = 1) (h : DataW.trod enc P w 0 (fun _ => true) true fuel t [u] = some x) :
    ∃ a c, ∃ xs : List Int, u = .slice a xs.length c ∧ Row w a xs.length c 1 (xs.map (Value.int k)) ∧ (∀ n ∈ xs, (Lit.int k n).wf = true) ∧ ((x.1 = .nil ∧ xs = []) ∨ ∃ ys, x.1 = .slice (lits k xs) (lits k ys)) := by
  rcases open_ints ht he hc h with ⟨hcs, hx⟩ | ⟨a, len, cap, zs, hcs, _, hl, hm, hz, hx, hcell, hw⟩
  · refine ⟨none, 0, [], by simpa using hcs, Row.nil _ _ _ _, by simp, .inl ⟨by rw [hx], rfl⟩⟩
  · have hcs' : u = .slice (some a) len cap := by simpa using hcs
    simp only [if_true] at hz
    have hlen : (zs.take len).length = len := by rw [List.length_take]; omega
    refine ⟨some a, cap, zs.take len, by rw [hlen]; exact hcs', row_of_cells (by omega) hl hcell, fun n hn => hw n (List.mem_of_mem_take hn), .inr ⟨zs.drop len, by rw [hx]⟩⟩
/-- []string -/
theorem open_row_strs {t e : TypeId} {fuel : Nat} {u : Value} {x : DataW H × List MemPlace} (ht : P.underlying t = some (.slice e)) (he : P.underlying e = some .string) (hc : P.cellsOf e = 1) (h : DataW.trod enc P w 0 (fun _ => true) true fuel t [u] = some x) :
    ∃ a c, ∃ xs : List (List UInt8), u = .slice a xs.length c ∧ Row w a xs.length c 1 (xs.map vstr) ∧ ((x.1 = .nil ∧ xs = []) ∨ ∃ ys, x.1 = .slice (xs.map fun s => .lit (.string s)) ys) := by
  rcases open_strings ht he hc h with ⟨hcs, hx⟩ | ⟨a, len, cap, ss, hcs, _, hl, hm, hz, hx, hcell, _⟩
  · refine ⟨none, 0, [], by simpa using hcs, Row.nil _ _ _ _, .inl ⟨by rw [hx], rfl⟩⟩
  · have hcs' : u = .slice (some a) len cap := by simpa using hcs
    simp only [if_true] at hz
    have hr := row_of_cells (f := Value.string) (d := ByteArray.empty) (n := len) (c := cap) (by omega) hl hcell
    have hlen : (ss.take len).length = len := by rw [List.length_take]; omega
    refine ⟨some a, cap, (ss.take len).map (·.data.toList), by rw [List.length_map, hlen]; exact hcs', ?_, .inr ⟨strs (ss.drop len), ?_⟩⟩
    · rw [List.map_map, List.length_map]
      exact hr
    · rw [hx]
      simp only [strs, List.map_map]
      congr 1
theorem open_one {t : TypeId} {F : Field} {r : Reach} {b0 : Nat} {v : Value} {d : DataW H} {p : List MemPlace} (hs : P.underlying t = some (.struct #[F])) (hC : P.cellsOf t = 1) (hF : F.offset = 0 ∧ P.cellsOf F.type = 1)
    (hv : Value.okWide P w r b0 t v) (h : DataW.Trod enc P w 0 (fun _ => true) true t v d p) :
    ∃ (v0 : Value) (y0 : DataW H × List MemPlace) (n : Nat), v = .agg ⟨[v0]⟩ ∧ d = .agg [y0.1] ∧ DataW.trod enc P w 0 (fun _ => true) true n F.type [v0] = some y0 := by
  obtain ⟨cs, rfl, hsz⟩ := okWide_struct hs hv
  obtain ⟨l⟩ := cs
  rw [hC] at hsz
  match l, hsz with
  | [c0], _ =>
    obtain ⟨fuel, hf⟩ := h
    obtain ⟨xs, n, _, hx, _, hlen, hq⟩ := DataW.trod_struct hs hf
    match xs, hlen with
    | [y0], _ =>
      have h0 := hq 0 F rfl
      simp only [Value.cells, hF.1, hF.2, List.drop_zero] at h0
      simp only [Prod.mk.injEq] at hx
      exact ⟨c0, y0, n, rfl, by rw [hx.1]; rfl, by simpa using h0⟩
end
end Go.Gv
namespace Go.Gv
open Go Go.RowKit Go.WideShapes Go.ChangeShapes
theorem list_choice {α : Type} {p : Nat → α → Prop} : ∀ n : Nat, (∀ i, i < n → ∃ y, p i y) → ∃ xs : List α, xs.length = n ∧ ∀ i y, xs[i]? = some y → p i y
  | 0, _ => ⟨[], rfl, fun i y h => by simp at h⟩
  | n + 1, h => by
    obtain ⟨xs, hl, hx⟩ := list_choice n (fun i hi => h i (by omega))
    obtain ⟨y, hy⟩ := h n (by omega)
    refine ⟨xs ++ [y], by simp [hl], fun i z hz => ?_⟩
    by_cases hi : i < xs.length
    · rw [List.getElem?_append_left hi] at hz; exact hx i z hz
    · rw [List.getElem?_append_right (by omega)] at hz
      have h0 : i - xs.length = 0 := by
        have := (List.getElem?_eq_some_iff.1 hz).1
        simp at this; omega
      rw [h0] at hz
      have hin : i = n := by omega
      simp at hz
      subst hz; subst hin; exact hy
section
variable {H : Type} {enc : TypeId × Value → H} {P : Program} {w w' : World}
/-- how the cells of a type read: y is what they say; good: what is known of it and of what is read -/
def Opens {α : Type} (enc : TypeId × Value → H) (P : Program) (w : World) (t : TypeId) (ce : α → List Value) (good : α → DataW H → Prop) : Prop :=
  ∀ (fuel : Nat) (cs : List Value) (x : DataW H × List MemPlace), DataW.trod enc P w 0 (fun _ => true) true fuel t cs = some x → ∃ y, cs = ce y ∧ good y x.1
theorem wide_get {α : Type} {ce : α → List Value} {sz : Nat} (hs : ∀ x, (ce x).length = sz) (hp : 0 < sz) {xs : List α} {j : Nat} {v : Value} (h : (xs.flatMap ce)[j]? = some v) : ∃ x, xs[j / sz]? = some x ∧ (ce x)[j % sz]? = some v := by
  have hj : j < xs.length * sz := by
    have := (List.getElem?_eq_some_iff.1 h).1
    rwa [wide_len hs] at this
  have hi : j / sz < xs.length := Nat.div_lt_of_lt_mul (by rw [Nat.mul_comm]; exact hj)
  have hx : xs[j / sz]? = some xs[j / sz] := List.getElem?_eq_getElem hi
  refine ⟨_, hx, ?_⟩
  have := wide_at hs xs[j / sz] xs (j / sz) hi
  rw [List.getD_eq_getElem?_getD, hx, Option.getD_some] at this
  rw [← this, List.getElem?_take, if_pos (Nat.mod_lt _ hp), List.getElem?_drop, Nat.mul_comm, Nat.div_add_mod]
  exact h
theorem open_row_wide {α : Type} {ce : α → List Value} {good : α → DataW H → Prop} {sz : Nat} {t e : TypeId} {fuel : Nat} {u : Value} {x : DataW H × List MemPlace} (ht : P.underlying t = some (.slice e)) (hc : P.cellsOf e = sz) (hs : ∀ y, (ce y).length = sz) (hp : 0 < sz)
    (ho : Opens enc P w e ce good) (h : DataW.trod enc P w 0 (fun _ => true) true fuel t [u] = some x) :
    ∃ a c, ∃ xs : List α, u = .slice a xs.length c ∧ Row w a xs.length c sz (xs.flatMap ce) ∧ ((x.1 = .nil ∧ xs = []) ∨ ∃ ds ys, x.1 = .slice ds ys ∧ ds.length = xs.length ∧ ∀ y ∈ xs, ∃ d ∈ ds, good y d) := by
  rcases DataW.trod_slice ht h with ⟨hcs, hx⟩ | ⟨a, len, cap, elems, rest, n, _, hcs, hx, _, hl, hm, hlen, hel, _, _⟩
  · exact ⟨none, 0, [], by simpa using hcs, Row.nil _ _ _ _, .inl ⟨by rw [hx], rfl⟩⟩
  · have hcs' : u = .slice (some a) len cap := by simpa using hcs
    rw [hc] at hel
    obtain ⟨xs, hxl, hxs⟩ := list_choice (p := fun i y => w.cells? 0 (a.add (i * sz)) sz = some (ce y) ∧ ∃ d ∈ elems.map (·.1), good y d) len (fun i hi => by
      have he := hel i hi
      rw [List.getElem?_eq_getElem (by omega)] at he
      obtain ⟨csi, hc1, hc2⟩ := Option.bind_eq_some_iff.1 he
      obtain ⟨y, hy1, hy2⟩ := ho _ _ _ hc2
      exact ⟨y, by rw [hc1, hy1], _, List.mem_map.2 ⟨_, List.getElem_mem (by omega), rfl⟩, hy2⟩)
    refine ⟨some a, cap, xs, by rw [hxl]; exact hcs', ⟨wide_len hs xs, by omega, ?_⟩, .inr ⟨_, _, by rw [hx], by rw [List.length_map]; omega, fun y hy => ?_⟩⟩
    · by_cases h0 : xs = []
      · left; subst h0; rfl
      · right
        have hpos : 0 < xs.length := List.length_pos_iff.2 h0
        have h1 := (hxs 0 xs[0] (List.getElem?_eq_getElem hpos)).1
        have h2 := (World.cells?_some h1).2.2 0 (by have := (World.cells?_some h1).2.1; rw [hs] at this; omega)
        have ha : a = ⟨a.block, a.off, none⟩ := by
          have h3 : a.add (0 * sz) = a := by rw [Nat.zero_mul]; simp [Addr.add]
          rw [h3, show a.add 0 = a from by simp [Addr.add]] at h2
          have h4 : 0 < (ce xs[0]).length := by rw [hs]; exact hp
          rw [List.getElem?_eq_getElem h4] at h2
          exact spot_none h2
        refine ⟨a.block, a.off, by rw [← ha], fun j v hj => ?_⟩
        obtain ⟨y, hy1, hy2⟩ := wide_get hs hp hj
        have h4 := (hxs _ y hy1).1
        have h5 := (World.cells?_some h4).2.2 (j % sz) (by have := Nat.mod_lt j hp; have := (World.cells?_some h4).2.1; rw [hs] at this; omega)
        rw [ha, Addr.add_lit, Addr.add_lit] at h5
        have h6 : a.off + j / sz * sz + j % sz = a.off + j := by rw [Nat.add_assoc, Nat.mul_comm, Nat.div_add_mod]
        rw [h6] at h5
        unfold Has
        rw [h5, ← hy2, List.getElem?_eq_getElem (List.getElem?_eq_some_iff.1 hy2).1]
    · obtain ⟨i, hi, rfl⟩ := List.mem_iff_getElem.1 hy
      exact (hxs i _ (List.getElem?_eq_getElem hi)).2
theorem open_num {t : TypeId} {k : IntKind} {fuel : Nat} {u : Value} {x : DataW H × List MemPlace} (ht : P.underlying t = some (.int k)) (h : DataW.trod enc P w 0 (fun _ => true) true fuel t [u] = some x) : ∃ n, u = .int k n ∧ x.1 = .lit (.int k n) ∧ (Lit.int k n).wf = true := by
  obtain ⟨n, h1, h2, h3⟩ := DataW.trod_int ht h
  exact ⟨n, by simpa using h1, by rw [h2], h3⟩
section structs
variable {t : TypeId} {F0 F1 F2 F3 F4 : Field} {fuel : Nat} {cs : List Value} {x : DataW H × List MemPlace}
theorem trod_three (ht : P.underlying t = some (.struct #[F0, F1, F2])) (hC : P.cellsOf t = 3) (ho : F0.offset = 0 ∧ F1.offset = 1 ∧ F2.offset = 2) (hc : P.cellsOf F0.type = 1 ∧ P.cellsOf F1.type = 1 ∧ P.cellsOf F2.type = 1) (h : DataW.trod enc P w 0 (fun _ => true) true fuel t cs = some x) :
    ∃ (v0 v1 v2 : Value) (y0 y1 y2 : DataW H × List MemPlace) (n : Nat), cs = [v0, v1, v2] ∧ x.1 = .agg [y0.1, y1.1, y2.1] ∧ DataW.trod enc P w 0 (fun _ => true) true n F0.type [v0] = some y0 ∧ DataW.trod enc P w 0 (fun _ => true) true n F1.type [v1] = some y1 ∧ DataW.trod enc P w 0 (fun _ => true) true n F2.type [v2] = some y2 := by
  obtain ⟨xs, n, _, rfl, hl, hlen, hf⟩ := DataW.trod_struct ht h
  rw [hC] at hl
  match cs, hl, xs, hlen with
  | [v0, v1, v2], _, [y0, y1, y2], _ =>
    have h0 := hf 0 F0 rfl
    have h1 := hf 1 F1 rfl
    have h2 := hf 2 F2 rfl
    rw [ho.1, hc.1] at h0; rw [ho.2.1, hc.2.1] at h1; rw [ho.2.2, hc.2.2] at h2
    exact ⟨v0, v1, v2, y0, y1, y2, n, rfl, rfl, h0, h1, h2⟩
theorem trod_four (ht : P.underlying t = some (.struct #[F0, F1, F2, F3])) (hC : P.cellsOf t = 4) (ho : F0.offset = 0 ∧ F1.offset = 1 ∧ F2.offset = 2 ∧ F3.offset = 3) (hc : P.cellsOf F0.type = 1 ∧ P.cellsOf F1.type = 1 ∧ P.cellsOf F2.type = 1 ∧ P.cellsOf F3.type = 1) (h : DataW.trod enc P w 0 (fun _ => true) true fuel t cs = some x) :
    ∃ (v0 v1 v2 v3 : Value) (y0 y1 y2 y3 : DataW H × List MemPlace) (n : Nat), cs = [v0, v1, v2, v3] ∧ x.1 = .agg [y0.1, y1.1, y2.1, y3.1] ∧ DataW.trod enc P w 0 (fun _ => true) true n F0.type [v0] = some y0 ∧ DataW.trod enc P w 0 (fun _ => true) true n F1.type [v1] = some y1 ∧ DataW.trod enc P w 0 (fun _ => true) true n F2.type [v2] = some y2 ∧ DataW.trod enc P w 0 (fun _ => true) true n F3.type [v3] = some y3 := by
  obtain ⟨xs, n, _, rfl, hl, hlen, hf⟩ := DataW.trod_struct ht h
  rw [hC] at hl
  match cs, hl, xs, hlen with
  | [v0, v1, v2, v3], _, [y0, y1, y2, y3], _ =>
    have h0 := hf 0 F0 rfl
    have h1 := hf 1 F1 rfl
    have h2 := hf 2 F2 rfl
    have h3 := hf 3 F3 rfl
    rw [ho.1, hc.1] at h0; rw [ho.2.1, hc.2.1] at h1; rw [ho.2.2.1, hc.2.2.1] at h2; rw [ho.2.2.2, hc.2.2.2] at h3
    exact ⟨v0, v1, v2, v3, y0, y1, y2, y3, n, rfl, rfl, h0, h1, h2, h3⟩
theorem agg_open {fs : Array Field} {r : Reach} {b0 : Nat} {v : Value} {d : DataW H} {p : List MemPlace} (hs : P.underlying t = some (.struct fs)) (hv : Value.okWide P w r b0 t v) (h : DataW.Trod enc P w 0 (fun _ => true) true t v d p) :
    ∃ cs fuel, v = .agg ⟨cs⟩ ∧ DataW.trod enc P w 0 (fun _ => true) true fuel t cs = some (d, p) := by
  obtain ⟨cs, rfl, hsz⟩ := okWide_struct hs hv
  obtain ⟨l⟩ := cs
  obtain ⟨fuel, hf⟩ := h
  exact ⟨l, fuel, rfl, hf⟩
end structs
end
end Go.Gv
