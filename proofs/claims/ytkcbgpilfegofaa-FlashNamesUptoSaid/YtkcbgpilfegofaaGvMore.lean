/- Small laws for the printed walks. Conditions: none. -/
import Derived.Test.YtkcbgpilfegofaaGvRet
set_option linter.unusedVariables false
set_option linter.unusedSimpArgs false
namespace Go.Gv
open Go Go.RowKit

abbrev vbyte (b : UInt8) : Value := .int .u8 b.toNat

theorem getD_some {α : Type} {l : List α} {i : Nat} {d : α} (h : i < l.length) : l[i]? = some (l.getD i d) := by
  rw [List.getElem?_eq_getElem h, List.getD_eq_getElem?_getD, List.getElem?_eq_getElem h]; rfl

theorem all_one_map {α : Type} (f : α → Value) (l : List α) (h : ∀ x, (f x).oneCell' = true) : (l.map f).all Value.oneCell' = true := by
  rw [List.all_eq_true]
  intro x hx
  obtain ⟨y, _, rfl⟩ := List.mem_map.1 hx
  exact h y

theorem row_slice {α : Type} {f : α → Value} {xs : List α} {w : World} {a : Option Addr} {n c lo hi : Nat} (h : Row w a n c 1 (((xs.map f).take (hi * 1)).drop (lo * 1))) : Row w a n c 1 (((xs.take hi).drop lo).map f) := by
  simp only [Nat.mul_one] at h
  rw [List.map_drop, List.map_take]
  exact h

theorem row_slice_hi {α : Type} {f : α → Value} {xs : List α} {w : World} {a : Option Addr} {n c hi : Nat} (h : Row w a n c 1 (((xs.map f).take (hi * 1)).drop (0 * 1))) : Row w a n c 1 ((xs.take hi).map f) := by
  simp only [Nat.mul_one, Nat.zero_mul, List.drop_zero] at h
  rw [List.map_take]
  exact h
theorem row_slice_lo {α : Type} {f : α → Value} {xs : List α} {w : World} {a : Option Addr} {n c hi lo : Nat} (hl : xs.length ≤ hi) (h : Row w a n c 1 (((xs.map f).take (hi * 1)).drop (lo * 1))) : Row w a n c 1 ((xs.drop lo).map f) := by
  simp only [Nat.mul_one] at h
  rw [List.take_of_length_le (by simpa using hl)] at h
  rw [List.map_drop]
  exact h
theorem own_ext {w w' : World} {base e size n : Nat} {v : Value} {xs : List Value} (h : w.ownsRow base e size v n xs) (hg : Ext w w') : w'.ownsRow base e size v n xs := by
  refine h.kept hg ?_
  cases v.ownBlock with
  | none => exact .inl rfl
  | some b => exact .inr (by simp)

theorem below_own {B base e size n : Nat} {w0 w w' : World} {v : Value} {xs : List Value} (hB : Below B w0 w) (hG : w.grownBy w' v.ownBlock) (hown : w.ownsRow base e size v n xs) (hb : B ≤ base) (hsz : B ≤ w.heap.size) : Below B w0 w' :=
  hB.grown hG hsz (fun k hk => by have := hown.lt k hk; omega)

theorem own_ne {base e size n b : Nat} {w : World} {v : Value} {xs : List Value} (hown : w.ownsRow base e size v n xs) (hb : b < base) : some b ≠ v.ownBlock := fun h => by
  have := hown.lt b h.symm; omega

theorem own_mono {base base' e size n : Nat} {w : World} {v : Value} {xs : List Value} (h : w.ownsRow base e size v n xs) (hb : base' ≤ base) : w.ownsRow base' e size v n xs := by
  obtain ⟨h1, h2⟩ := h
  refine ⟨h1, h2.imp id ?_⟩
  rintro ⟨g, cap, cur, h3, h4, h5⟩
  exact ⟨g, cap, cur, h3, Nat.le_trans hb h4, h5⟩

theorem made_one (z : Value) (n : Nat) (hz : z.cells = #[z]) : (madeCells z.cells (n * 1)).toList = List.replicate n z := by
  rw [hz, Nat.mul_one]; exact toList_madeCells_one z n

theorem Blk.cells0 {w : World} {b : Nat} {cs : List Value} (h : Blk w b cs) : Cells w b 0 cs := fun j v hj => by
  rw [Nat.zero_add]; exact h.has hj

theorem row_of_blk {w : World} {b n c : Nat} {cs : List Value} (h : Blk w b cs) (hl : cs.length = n) (hc : n ≤ c) : Row w (some ⟨b, 0, none⟩) n c 1 cs :=
  ⟨by rw [hl, Nat.mul_one], hc, .inr ⟨b, 0, rfl, h.cells0⟩⟩

section
variable {P : Program} {ops : Array Oper} {e : Env} {w : World}
variable {d : Option Nat} {ty : TypeId} {pos : String} {af : Array Edge} {g : Option (Nat × Bool)}

theorem q_indexAddr_arr1 {t el : TypeId} {x y : Operand} {n b o : Nat} {kd : IntKind} {i : Int} (ht : P.underlying t = some (.array n el)) (hsz : ∀ w, (sizeOf el).run P w = .ok 1 w)
    (hx : ev e x = ptr b o) (hy : ev e y = .int kd i) (hr : 0 ≤ i ∧ i < n) (hw : wantedE ops e ⟨d, .indexAddr t x y, ty, pos, af, g⟩ = true) : QuietAt P ops e w ⟨d, .indexAddr t x y, ty, pos, af, g⟩ (ptr b (o + i.toNat)) := by
  have := q_indexAddr_arr (w := w) ht hsz hx hy hr hw
  rwa [Nat.mul_one] at this

/-- a store into one cell of a block, its number a variable -/
theorem o_store1 {K : Value → World → Prop} {t : TypeId} {x y : Operand} {b o : Nat} {v : Value} {cs : List Value} (hsz : ∀ w, (sizeOf t).run P w = .ok 1 w) (hx : ev e x = ptr b o) (hy : ev e y = v) (hv : v.cells = ⟨[v]⟩) (h1 : v.oneCell' = true)
    (hb : Blk w b cs) (hf : o < cs.length) (hw : wantedE ops e ⟨d, .store t x y, ty, pos, af, g⟩ = true)
    (h : ∀ w', w'.heap.size = w.heap.size → Blk w' b (cs.set o v) → w.grownBy w' (some b) → K undef w') : EffAt P ops e w ⟨d, .store t x y, ty, pos, af, g⟩ K :=
  o_store (vs := [v]) (cs' := cs.set o v) hsz hx hy hv (by simp [h1]) hb (by simp; omega) (by
    rw [List.set_eq_take_append_cons_drop, if_pos hf]; simp) hw h

/-- a store over a whole block -/
theorem o_store_all {K : Value → World → Prop} {t : TypeId} {x y : Operand} {b n : Nat} {cs cs' : List Value} (hsz : ∀ w, (sizeOf t).run P w = .ok n w) (hx : ev e x = ptr b 0) (hy : ev e y = .agg ⟨cs'⟩)
    (hb : Blk w b cs) (hl : cs.length = n) (hl' : cs'.length = n) (h1 : cs'.all Value.oneCell' = true) (hw : wantedE ops e ⟨d, .store t x y, ty, pos, af, g⟩ = true)
    (h : ∀ w', w'.heap.size = w.heap.size → Blk w' b cs' → w.grownBy w' (some b) → K undef w') : EffAt P ops e w ⟨d, .store t x y, ty, pos, af, g⟩ K :=
  o_store (vs := cs') (cs' := cs') (by rw [hl']; exact hsz) hx hy rfl h1 hb (by omega) (by simp [hl, hl']) hw h

/-- append to what has no elements -/
theorem o_append0 {K : Value → World → Prop} {t el : TypeId} {at_ : Array TypeId} {x y : Operand} {z : Value} {sz bytes base : Nat} {a a2 : Option Addr} {c m c2 : Nat} {news : List Value} (ht : P.underlying t = some (.slice el)) (he : Elem P el z sz bytes) (hat : at_ = #[t, t])
    (hx : ev e x = .slice a 0 c) (hown : w.ownsRow base el sz (.slice a 0 c) 0 []) (hy : ev e y = .slice a2 m c2) (hrow : Row w a2 m c2 sz news) (h1 : news.all Value.oneCell' = true)
    (h63 : m ≤ maxLen) (hbytes : m * bytes ≤ 140737488355328) (hbase : base ≤ w.heap.size)
    (hw : wantedE ops e ⟨d, .call ⟨.builtin .append, #[x, y], at_⟩, ty, pos, af, g⟩ = true)
    (h : ∀ a' c' w', w.heap.size ≤ w'.heap.size → w'.ownsRow base el sz (.slice a' m c') m news → w.grownBy w' (Value.ownBlock (.slice a 0 c)) → K (.slice a' m c') w') :
    EffAt P ops e w ⟨d, .call ⟨.builtin .append, #[x, y], at_⟩, ty, pos, af, g⟩ K :=
  o_append ht he hat hx hown hy hrow h1 (by rw [Nat.zero_add]; exact h63) (by rw [Nat.zero_add]; exact hbytes) hbase hw (fun a' c' w' hz ho hG => by
    rw [Nat.zero_add, List.nil_append] at ho
    have := h a' c' w' hz ho hG
    rwa [Nat.zero_add])

/-- append(nil, make([]T, n)...) -/
theorem o_append_make {K : Value → World → Prop} {t el ti : TypeId} {ki : IntKind} {at_ : Array TypeId} {x y : Operand} {z : Value} {bytes : Nat} {m : Nat} (ht : P.underlying t = some (.slice el)) (hti : P.underlying ti = some (.int ki)) (he : Elem P el z 1 bytes) (hat : at_ = #[t, ti])
    (hx : ev e x = .slice none 0 0) (hy : ev e y = vint m) (h63 : m ≤ maxLen) (hbytes : m * bytes ≤ 140737488355328) (hm : 0 < m)
    (hw : wantedE ops e ⟨d, .call ⟨.builtin .append, #[x, y], at_⟩, ty, pos, af, g⟩ = true)
    (h : ∀ b c' w', w.heap.size ≤ w'.heap.size → m ≤ c' → w'.ownsRow w.heap.size el 1 (.slice (some ⟨b, 0, none⟩) 0 c') 0 [] → Ext w w' → K (.slice (some ⟨b, 0, none⟩) m c') w') :
    EffAt P ops e w ⟨d, .call ⟨.builtin .append, #[x, y], at_⟩, ty, pos, af, g⟩ K := by
  subst hat
  obtain ⟨i, hi, hz, hs, hby⟩ := he.info
  have hzs := he.zs
  have hml : (m : Int) ≤ 9223372036854775807 := by simp only [maxLen] at h63; omega
  have hwr : IntKind.i64.wrap (m : Int) = m := wrap_in ⟨by omega, hml⟩
  have h1 : ¬ ((m : Int) < 0) := by omega
  have h2 : ¬ (281474976710656 < (m : Int) * (i.bytes : Int)) := by
    rw [hby]
    have : ((m * bytes : Nat) : Int) ≤ 281474976710656 := by omega
    rw [Int.natCast_mul] at this; omega
  have h3 : m ≠ 0 := by omega
  have h4 : ¬ (9223372036854775807 < (m : Int)) := by omega
  have h5 : ¬ (281474976710656 < Builtin.nextslicecap m 0 * i.bytes) := by rw [nextslicecap_zero hm, hby]; omega
  have hcap := grownCap_ge w m 0 el
  have hmx : IntKind.i64.max = 9223372036854775807 := by decide
  have hr : (Builtin.append_ #[t, ti] ty #[.slice none 0 0, vint m]).run P w =
      .ok (.slice (some ⟨w.heap.size, 0, none⟩) m (grownCap w m 0 el)) (w.drew.alloc (.cells (Builtin.zeroCells z.cells m ++ Builtin.zeroCells z.cells (grownCap w m 0 el - m)) el)) := by
    simp [Builtin.append_, run_underlying ht, run_underlying hti, sizeOf, typeInfo, zeroValue, hi, hz, hs, asInt, asIntOf, hwr, h1, h2, h3, h4, h5, Question.forced, run_firstCells_none, newRow, grownCap, hmx]
  refine e_value hw rfl (by simp [execOp, resolve, invoke, builtin, hx, hy, hr]; rfl) (h w.heap.size (grownCap w m 0 el) _ (by simp) hcap ⟨by simp, .inr ⟨w.heap.size, _, _, rfl, Nat.le_refl _, heap_alloc_new w.drew _, Nat.zero_le _, grownCap_le_maxLen w m 0 el h63, ?_, by simp⟩⟩ ⟨rfl, rfl, rfl, by simp, fun k hk _ => Below.heap_alloc w.drew _ k hk⟩)
  simp only [Array.size_append, size_zeroCells, hzs]
  omega

/-- a function without a body, that hands back a value at once -/
theorem q_extern {f : FuncId} {as : Array Operand} {at_ : Array TypeId} {args : List Value} {v : Value} (hin : ∀ w, (callFunc f args.toArray).run P w = .ok (.value v) w) (ha : as.toList.map (ev e) = args)
    (hw : wantedE ops e ⟨d, .call ⟨.value (.func f), as, at_⟩, ty, pos, af, g⟩ = true) : QuietAt P ops e w ⟨d, .call ⟨.value (.func f), as, at_⟩, ty, pos, af, g⟩ v :=
  .inl ⟨hw, rfl, by
    have h1 : (Array.map (ev e) as) = args.toArray := by rw [map_list, ha]
    have h2 : (#[] : Array Value) ++ args.toArray = args.toArray := Array.empty_append
    have h3 : args.toArray ++ (#[] : Array Value) = args.toArray := Array.append_empty
    simp only [execOp, resolve, ev, Deferred.ofValue, invoke, h1, hin, Sem.run_bind, Sem.run_pure, Result.andThen_ok, h2, h3]⟩

/-- []byte(s) -/
theorem o_toBytesB {K : Value → World → Prop} {s t el : TypeId} {x : Operand} {l : List UInt8} (hs : P.underlying s = some .string) (ht : P.underlying t = some (.slice el)) (he : P.underlying el = some (.int .u8)) (hx : ev e x = vstr l)
    (hw : wantedE ops e ⟨d, .convert s t x, ty, pos, af, g⟩ = true)
    (h : ∀ b c w', w.heap.size ≤ b → b < w'.heap.size → Row w' (some ⟨b, 0, none⟩) l.length c 1 (l.map vbyte) → Ext w w' → K (.slice (some ⟨b, 0, none⟩) l.length c) w') : EffAt P ops e w ⟨d, .convert s t x, ty, pos, af, g⟩ K := by
  have hsz : (⟨⟨l⟩⟩ : ByteArray).size = l.length := rfl
  let cap := (Question.appendCap l.length 0 el).cut (w.tape w.drawn (.appendCap l.length 0 el))
  have hcap : l.length ≤ cap := grownCap_ge w l.length 0 el
  let cells : Array Value := (l.map vbyte).toArray ++ Array.replicate (cap - l.length) (.int .u8 0)
  let w1 : World := (w.drew.alloc (.cells cells el)).freeze ⟨w.heap.size, cells.size, none⟩ 1
  have hheap : w1.heap[w.heap.size]? = some (.cells cells el (cells.size, cells.size + 1)) := by
    simp only [w1, World.freeze, if_neg (by decide : ¬ (1 = 0)), Array.getElem?_modify, if_pos rfl]
    have := heap_alloc_new w.drew (.cells cells el)
    rw [show w.drew.heap.size = w.heap.size from rfl] at this
    rw [this]
    simp
  have hold : ∀ k, k < w.heap.size → w1.heap[k]? = w.heap[k]? := by
    intro k hk
    simp only [w1, World.freeze, if_neg (by decide : ¬ (1 = 0)), Array.getElem?_modify]
    rw [if_neg (by omega)]
    exact Below.heap_alloc w.drew _ k hk
  have hrun : (execOp (ev e) ⟨d, .convert s t x, ty, pos, af, g⟩).run P w = .ok (.value (.slice (some ⟨w.heap.size, 0, none⟩) l.length cap)) w1 := by
    have hc1 : (List.toArray l).map (fun b : UInt8 => Value.int .u8 b.toNat) = (l.map vbyte).toArray := by simp
    have hsh : (w.drew.alloc (.cells cells el)).shape? w.heap.size = some (el, cells.size) := by
      have := heap_alloc_new w.drew (.cells cells el)
      rw [show w.drew.heap.size = w.heap.size from rfl] at this
      unfold World.shape?
      rw [this]
    have hrow : ∀ W : World, W = w.drew → (newRow el cells).run P W = .ok ⟨w.heap.size, 0, none⟩ (w.drew.alloc (.cells cells el)) := by
      intro W hW; subst hW; simp [newRow]
    have hmark : (markStringish ⟨w.heap.size, 0, none⟩).run P (w.drew.alloc (.cells cells el)) = .ok () w1 := by
      simp [markStringish, shape, freeze, Sem.run, hsh, bind, Sem.bind, w1]
    have hch : (choose (.appendCap l.length 0 el)).run P w = .ok cap w.drew := by
      simp [choose, Sem.run, Question.forced, cap]
    simp only [execOp, hx, convert, Sem.run_bind, run_underlying hs, run_underlying ht, run_underlying he, Result.andThen_ok, Conv.stringToBytes, hsz, hch, hc1]
    rw [show (List.map vbyte l).toArray ++ Array.replicate (cap - l.length) (Value.int IntKind.u8 0) = cells from rfl, hrow _ rfl]
    simp only [Result.andThen_ok, hmark, Sem.run_pure, Sem.run_bind]
  refine e_value hw rfl hrun (h _ _ w1 (Nat.le_refl _) (by simp [w1, World.freeze]) ⟨by simp, hcap, .inr ⟨w.heap.size, 0, rfl, fun j v hj => ?_⟩⟩ ⟨rfl, rfl, rfl, ?_, fun k hk _ => hold k hk⟩)
  · have hj' : cells[0 + j]? = some v := by
      rw [Nat.zero_add]
      simp only [cells]
      rw [Array.getElem?_append_left (by have := (List.getElem?_eq_some_iff.1 hj).1; simpa using this)]
      simpa using hj
    simp only [Has, World.cell?, hheap]
    simpa using hj'
  · simp [w1, World.freeze]
theorem o_toBytes {K : Value → World → Prop} {s t el : TypeId} {x : Operand} {l : List UInt8} (hs : P.underlying s = some .string) (ht : P.underlying t = some (.slice el)) (he : P.underlying el = some (.int .u8)) (hx : ev e x = vstr l)
    (hw : wantedE ops e ⟨d, .convert s t x, ty, pos, af, g⟩ = true)
    (h : ∀ a c w', Row w' a l.length c 1 (l.map vbyte) → Ext w w' → K (.slice a l.length c) w') : EffAt P ops e w ⟨d, .convert s t x, ty, pos, af, g⟩ K :=
  o_toBytesB hs ht he hx hw (fun b c w' _ _ hr hE => h _ c w' hr hE)
theorem Row.stepB {w w' : World} {b n c sz j : Nat} {cs : List Value} (h : Row w (some ⟨b, 0, none⟩) n c sz cs) (hg : w.grownBy w' (some j)) (hne : b ≠ j) : Row w' (some ⟨b, 0, none⟩) n c sz cs := by
  obtain ⟨h1, h2, h3⟩ := h
  refine ⟨h1, h2, h3.imp id ?_⟩
  rintro ⟨b', o', he, hc⟩
  cases he
  exact ⟨_, _, rfl, fun j v hj => hg.cell (hc j v hj) (by simpa using hne)⟩
end

/-- raw elements of one cell -/
theorem Row.at1r {cs : List Value} {w : World} {a : Option Addr} {n c : Nat} (h : Row w a n c 1 cs) (i : Nat) (v : Value) (hv : cs[i]? = some v) : ∃ b o, a = some ⟨b, o, none⟩ ∧ Has w b (o + i) v := by
  rcases h.2.2 with h0 | ⟨b, o, ha, hc⟩
  · subst h0; simp at hv
  · exact ⟨b, o, ha, hc i _ hv⟩

/-- a function value that answers p of each element, by its number, in every world from w0 on -/
def PredI (P : Program) (w0 : World) (g : FuncId) (fst cap cs : List Value) (p : Nat → Bool) : Prop :=
  (∀ args w, (callFunc g args).run P w = .ok (.enter g args) w) ∧ ∀ w, Ext w0 w → ∀ i v, cs[i]? = some v → Ret P g (fst ++ [v] ++ cap) w (fun r w' => r = .bool (p i) ∧ Ext w w')
theorem PredI.ext {P : Program} {w0 w1 : World} {g : FuncId} {fst cap cs : List Value} {p : Nat → Bool} (h : PredI P w0 g fst cap cs p) (he : Ext w0 w1) : PredI P w1 g fst cap cs p :=
  ⟨h.1, fun w hw => h.2 w (he.trans hw)⟩

theorem predI_of {α : Type} {P : Program} {w0 : World} {g : FuncId} {fst cap : List Value} {f : α → Value} {xs : List α} (d : α) {q : α → Bool} (hin : ∀ args w, (callFunc g args).run P w = .ok (.enter g args) w)
    (h : ∀ w, Ext w0 w → ∀ x ∈ xs, Ret P g (fst ++ [f x] ++ cap) w (fun r w' => r = .bool (q x) ∧ Ext w w')) : PredI P w0 g fst cap (xs.map f) (fun i => q (xs.getD i d)) := by
  refine ⟨hin, fun w hw i v hv => ?_⟩
  rw [List.getElem?_map] at hv
  cases hx : xs[i]? with
  | none => simp [hx] at hv
  | some x =>
    simp [hx] at hv
    subst hv
    have : xs.getD i d = x := by rw [List.getD_eq_getElem?_getD, hx]; rfl
    show Ret P g (fst ++ [f x] ++ cap) w fun r w' => r = Value.bool (q (xs.getD i d)) ∧ Ext w w'
    rw [this]
    exact h w hw x (List.mem_of_getElem? hx)

/-- a slice of ints, as it lies in another slice -/
structure SV where
  a : Option Addr
  c : Nat
  xs : List Int
abbrev SV.enc (s : SV) : Value := .slice s.a s.xs.length s.c
abbrev sv0 : SV := ⟨none, 0, []⟩
def RowsI (w : World) (l : List SV) : Prop := ∀ s ∈ l, Row w s.a s.xs.length s.c 1 (s.xs.map vint)
theorem RowsI.ext {w w' : World} {l : List SV} (h : RowsI w l) (hg : Ext w w') : RowsI w' l := fun s hs => (h s hs).ext hg
theorem RowsI.below {w w' : World} {l : List SV} (h : RowsI w l) (hg : Below w.heap.size w w') : RowsI w' l := fun s hs => (h s hs).below hg
theorem RowsI.get {w : World} {l : List SV} (h : RowsI w l) {i : Nat} (hi : i < l.length) : Row w (l.getD i sv0).a (l.getD i sv0).xs.length (l.getD i sv0).c 1 ((l.getD i sv0).xs.map vint) :=
  h _ (by rw [List.getD_eq_getElem?_getD, List.getElem?_eq_getElem hi]; exact List.getElem_mem hi)

theorem RowsI.sub {w : World} {l l' : List SV} (h : RowsI w l) (hs : ∀ s ∈ l', s ∈ l) : RowsI w l' := fun s hs' => h s (hs s hs')
theorem RowsI.take {w : World} {l : List SV} (h : RowsI w l) (n : Nat) : RowsI w (l.take n) := h.sub fun _ hs => List.mem_of_mem_take hs
theorem RowsI.drop {w : World} {l : List SV} (h : RowsI w l) (n : Nat) : RowsI w (l.drop n) := h.sub fun _ hs => List.mem_of_mem_drop hs
theorem RowsI.snoc {w : World} {l : List SV} {s : SV} (h : RowsI w l) (hs : Row w s.a s.xs.length s.c 1 (s.xs.map vint)) : RowsI w (l ++ [s]) := fun x hx => by
  rcases List.mem_append.1 hx with h1 | h1
  · exact h x h1
  · have : x = s := by simpa using h1
    subst this; exact hs
theorem RowsI.nil (w : World) : RowsI w [] := fun _ h => by simp at h

def idxI (p : Nat → Bool) (n : Nat) : Int := match (List.range n).find? p with | some i => i | none => -1
theorem idxI_found {p : Nat → Bool} {n k : Nat} (hk : k < n) (hp : p k = true) (hno : ∀ i, i < k → p i = false) : idxI p n = k := by
  unfold idxI
  have : (List.range n).find? p = some k := by
    rw [List.find?_range_eq_some]
    exact ⟨hp, by simpa using hk, fun j hj => by simp [hno j hj]⟩
  rw [this]
theorem idxI_none {p : Nat → Bool} {n : Nat} (hno : ∀ i, i < n → p i = false) : idxI p n = -1 := by
  unfold idxI
  have : (List.range n).find? p = none := by
    rw [List.find?_eq_none]
    intro i hi
    simp [hno i (List.mem_range.1 hi)]
  rw [this]
theorem idxI_nonneg (p : Nat → Bool) (n : Nat) : decide (0 ≤ idxI p n) = (List.range n).any p := by
  unfold idxI
  cases h : (List.range n).find? p with
  | none =>
    rw [List.find?_eq_none] at h
    have : (List.range n).any p = false := by rw [List.any_eq_false]; exact fun x hx => by simpa using h x hx
    rw [this]; simp
  | some i =>
    have h1 := List.find?_some h
    have h2 := List.mem_of_find?_eq_some h
    have : (List.range n).any p = true := List.any_eq_true.2 ⟨i, h2, h1⟩
    rw [this]; simp
theorem range_any {α : Type} (xs : List α) (d : α) (q : α → Bool) : (List.range xs.length).any (fun i => q (xs.getD i d)) = xs.any q := by
  rw [Bool.eq_iff_iff, List.any_eq_true, List.any_eq_true]
  constructor
  · rintro ⟨i, hi, hq⟩
    have hi := List.mem_range.1 hi
    exact ⟨_, List.getElem_mem hi, by simpa [List.getD_eq_getElem?_getD, List.getElem?_eq_getElem hi] using hq⟩
  · rintro ⟨x, hx, hq⟩
    obtain ⟨i, hi, rfl⟩ := List.mem_iff_getElem.1 hx
    exact ⟨i, List.mem_range.2 hi, by simpa [List.getD_eq_getElem?_getD, List.getElem?_eq_getElem hi] using hq⟩
theorem range_all {α : Type} (xs : List α) (d : α) (q : α → Bool) : (List.range xs.length).all (fun i => q (xs.getD i d)) = xs.all q := by
  have := range_any xs d (fun x => !q x)
  rw [List.all_eq_not_any_not, List.all_eq_not_any_not, this]
end Go.Gv
