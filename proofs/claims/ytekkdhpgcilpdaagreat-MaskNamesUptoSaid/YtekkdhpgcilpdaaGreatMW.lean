/- Contracts. -/
import Derived.Test.YtekkdhpgcilpdaaGreatM6
import Derived.Test.YtekkdhpgcilpdaaGreatGvSpot
set_option linter.unusedVariables false
set_option linter.unusedSimpArgs false
namespace Go.Proofs.YtekkdhpgcilpdaaGreat
open Go Go.RowKit Go.Gv Go.Fl
/-! ### Maps kept exactly -/
theorem key_int {P : Program} {st : TypeId} {em : Bool} {n : Nat} {kd : IntKind} (hu : P.underlying st = some (.int kd)) (x : Int) (w : World) : (Instr.checkKey em (n + 1) st (vint x)).run P w = .ok () w := by
  simp [Instr.checkKey, run_underlying hu]
/-- what a map holds, key for key -/
structure HoldsK {κ : Type} (key : κ → Value) (es : List MapEntry) (f : κ → Option Value) : Prop where
  out : ∀ e ∈ es, ∃ i, e.key = key i ∧ f i = some e.val
  has : ∀ i v, f i = some v → ∃ e ∈ es, e.key = key i ∧ e.val = v
  one : es.Pairwise (fun x y => x.key ≠ y.key)
def Finds (P : Program) (kt : TypeId) (kv : Value) (es : List MapEntry) : Prop :=
  ∃ r : Option (Nat × Value), (∀ w, (Instr.findKey kt kv es).run P w = .ok r w) ∧ (∀ j v, r = some (j, v) → ∃ e, es[j]? = some e ∧ e.key = kv ∧ e.val = v) ∧ (r = none → ∀ e ∈ es, e.key ≠ kv)
section
variable {P : Program} {κ : Type} {key : κ → Value} {es : List MapEntry} {f : κ → Option Value}
theorem HoldsK.nil : HoldsK key [] (fun _ => none) := ⟨fun e he => by simp at he, (fun i v h => by cases h), List.Pairwise.nil⟩
theorem HoldsK.congr {g : κ → Option Value} (h : HoldsK key es f) (hfg : ∀ i, f i = g i) : HoldsK key es g := by
  have : f = g := funext hfg
  rwa [← this]
theorem HoldsK.put [DecidableEq κ] (hinj : ∀ i j, key i = key j → i = j) (h : HoldsK key es f) {i : κ} {v : Value} {es' : List MapEntry}
    (h1 : ∀ e ∈ es', (e ∈ es ∧ e.key ≠ key i) ∨ (e.key = key i ∧ e.val = v)) (h2 : ∀ e ∈ es, e.key ≠ key i → e ∈ es') (h3 : ∃ e ∈ es', e.key = key i ∧ e.val = v) (h4 : es'.Pairwise (fun x y => x.key ≠ y.key)) :
    HoldsK key es' (fun j => if j = i then some v else f j) := by
  refine ⟨fun e he => ?_, fun j u hu => ?_, h4⟩
  · rcases h1 e he with ⟨h5, h6⟩ | ⟨h5, h6⟩
    · obtain ⟨j, hj, hf⟩ := h.out e h5
      refine ⟨j, hj, ?_⟩
      rw [if_neg (fun hji => h6 (by rw [hj, hji]))]
      exact hf
    · exact ⟨i, h5, by rw [if_pos rfl, h6]⟩
  · by_cases hji : j = i
    · subst hji
      rw [if_pos rfl] at hu
      cases hu
      exact h3
    · rw [if_neg hji] at hu
      obtain ⟨e, he, hk, hv⟩ := h.has j u hu
      exact ⟨e, h2 e he (fun hk2 => hji (hinj _ _ (hk.symm.trans hk2))), hk, hv⟩
theorem HoldsK.look (hinj : ∀ i j, key i = key j → i = j) (h : HoldsK key es f) (i : κ) (z : Value) : (∀ e ∈ es, e.key = key i → (f i).getD z = e.val) ∧ ((∀ e ∈ es, e.key ≠ key i) → (f i).getD z = z) := by
  refine ⟨fun e he hk => ?_, fun hn => ?_⟩
  · obtain ⟨j, hj, hf⟩ := h.out e he
    have := hinj _ _ (hk.symm.trans hj)
    subst this
    rw [hf]; rfl
  · cases hf : f i with
    | none => rfl
    | some v =>
      obtain ⟨e, he, hk, _⟩ := h.has i v hf
      exact absurd hk (hn e he)
theorem finds_int {kt : TypeId} {q : IntKind} {kv : Value} (hd : P.underlying kt = some (.int q)) (hk : MapKept.IsKey (.int q) kv) (h : ∀ e ∈ es, MapKept.IsKey (.int q) e.key) : Finds P kt kv es := by
  rcases MapKept.findNow_spec hk es 0 h with ⟨h1, h2⟩ | ⟨j, e, h1, h2, h3⟩
  · exact ⟨none, fun w => MapKept.run_findKey hd h1, (fun j v hj => by cases hj), fun _ => h2⟩
  · refine ⟨some (0 + j, e.val), fun w => MapKept.run_findKey hd h1, fun j' v hj => ?_, fun hn => by cases hn⟩
    have hj : some (0 + j, e.val) = some (j', v) := hj
    simp only [Option.some.injEq, Prod.mk.injEq] at hj
    obtain ⟨rfl, rfl⟩ := hj
    exact ⟨e, by rw [Nat.zero_add]; exact h2, h3, rfl⟩
def pairV (p : Int × Int) : Value := .agg ⟨[vint p.1, vint p.2]⟩
theorem pairV_inj (p q : Int × Int) (h : pairV p = pairV q) : p = q := by
  obtain ⟨a, b⟩ := p
  obtain ⟨c, d⟩ := q
  simp only [pairV, vint, Value.agg.injEq, Array.mk.injEq, List.cons.injEq, Value.int.injEq, and_true, true_and] at h
  rw [h.1, h.2]
theorem vint_inj_ (i j : Int) (h : vint i = vint j) : i = j := by
  simp only [vint, Value.int.injEq, true_and] at h
  exact h
theorem finds_pair {t st : TypeId} (ht : PairTy P t st) {g : Int × Int → Option Value} {p : Int × Int} (h : HoldsK pairV es g) : Finds P t (pairV p) es := by
  obtain ⟨f1, f2, hu, _⟩ := ht.fs
  refine find_key hu es (fun e he => ?_)
  obtain ⟨q, hq, _⟩ := h.out e he
  refine ⟨decide (p.1 = q.1) && decide (p.2 = q.2), fun w => ?_, ?_⟩
  · rw [hq]; exact ht.equal (d := 9998) _ _ _ _ w
  · rw [hq, Bool.and_eq_true, decide_eq_true_eq, decide_eq_true_eq]
    constructor
    · rintro ⟨h1, h2⟩; rw [Prod.ext h1 h2]
    · intro h1; have := pairV_inj _ _ h1; rw [this]; exact ⟨rfl, rfl⟩
theorem HoldsK.ints {q : Int → Option Value} (h : HoldsK vint es q) : ∀ e ∈ es, MapKept.IsKey (.int .i64) e.key := fun e he => by
  obtain ⟨i, hi, _⟩ := h.out e he
  rw [hi]; exact rfl
theorem sameBits_pairV (p : Int × Int) : Instr.sameBits 10000 (pairV p) (pairV p) = true := sameBits_ints [p.1, p.2]
theorem sameBits_vint (i : Int) : Instr.sameBits 10000 (vint i) (vint i) = true := by simp [Instr.sameBits]
section
variable {ops : Array Oper} {e : Env} {w : World}
variable {d : Option Nat} {ty : TypeId} {pos : String} {af : Array Edge} {g : Option (Nat × Bool)}
theorem q_look1 {t kt el : TypeId} {x y : Operand} {m clock : Nat} {kv z v : Value} (ht : P.underlying t = some (.map kt el)) (hz : ∀ w, (zeroValue el).run P w = .ok z w)
    (hx : ev e x = .map (some m)) (hy : ev e y = kv) (hm : MapAt w m es clock) (hck : ∀ em w, (Instr.checkKey em 10000 kt kv).run P w = .ok () w) (hf : Finds P kt kv es) (hv : (∀ e ∈ es, e.key = kv → v = e.val) ∧ ((∀ e ∈ es, e.key ≠ kv) → v = z))
    (hw : wantedE ops e ⟨d, .lookup t x y false, ty, pos, af, g⟩ = true) : QuietAt P ops e w ⟨d, .lookup t x y false, ty, pos, af, g⟩ v := by
  obtain ⟨r, hr, h1, h2⟩ := hf
  have hg : (getObj m).run P w = .ok (.map es.toArray clock) w := by
    have hm' : w.heap[m]? = some (.map es.toArray clock) := hm
    simp [getObj, Sem.run, hm']
  refine .inl ⟨hw, rfl, ?_⟩
  cases r with
  | none =>
    rw [hv.2 (h2 rfl)]
    simp [execOp, Instr.lookup, run_underlying ht, hx, hy, hg, hck, hr, hz]
  | some p =>
    obtain ⟨j, u⟩ := p
    obtain ⟨en, h3, h4, h5⟩ := h1 j u rfl
    have h6 := hv.1 en (List.mem_of_getElem? h3) h4
    rw [h6, h5]
    simp [execOp, Instr.lookup, run_underlying ht, hx, hy, hg, hck, hr, hz]
theorem o_mapPut [DecidableEq κ] {K : Value → World → Prop} {t kt el : TypeId} {x y z : Operand} {m clock : Nat} {i : κ} {v : Value} (ht : P.underlying t = some (.map kt el))
    (hx : ev e x = .map (some m)) (hy : ev e y = key i) (hv : ev e z = v) (hm : MapAt w m es clock) (hck : ∀ em w, (Instr.checkKey em 10000 kt (key i)).run P w = .ok () w) (hf : Finds P kt (key i) es) (hsb : Instr.sameBits 10000 (key i) (key i) = true)
    (hinj : ∀ i j, key i = key j → i = j) (hH : HoldsK key es f)
    (hw : wantedE ops e ⟨d, .mapUpdate t x y z, ty, pos, af, g⟩ = true)
    (h : ∀ es' clock' w', w'.heap.size = w.heap.size → MapAt w' m es' clock' → w.grownBy w' (some m) → HoldsK key es' (fun j => if j = i then some v else f j) → K undef w') :
    EffAt P ops e w ⟨d, .mapUpdate t x y z, ty, pos, af, g⟩ K := by
  obtain ⟨r, hr, h1, h2⟩ := hf
  have hm' : w.heap[m]? = some (.map es.toArray clock) := hm
  have hlt : m < w.heap.size := (Array.getElem?_eq_some_iff.1 hm').1
  have hg : (getObj m).run P w = .ok (.map es.toArray clock) w := by simp [getObj, Sem.run, hm']
  have hs : ∀ o, (setObj m o).run P w = .ok () (w.putObj m o) := fun o => by simp [setObj, Sem.run, hm', World.putObj]
  cases r with
  | none =>
    have h2 := h2 rfl
    refine e_done (w' := w.putObj m (.map (es.toArray.push { key := key i, val := v, born := clock }) (clock + 1))) hw rfl (by simp [execOp, Instr.mapUpdate, run_underlying ht, hx, hy, hv, hg, hck, hr, hs]) ?_
    refine h (es ++ [{ key := key i, val := v, born := clock }]) (clock + 1) _ (by simp [World.putObj]) ?_ (grownBy_putObj _ _ _) (hH.put hinj ?_ ?_ ?_ ?_)
    · unfold MapAt; rw [putObj_self hlt]; simp
    · intro en hen
      rcases List.mem_append.1 hen with hen | hen
      · exact .inl ⟨hen, h2 en hen⟩
      · right; have : en = { key := key i, val := v, born := clock } := by simpa using hen
        rw [this]; exact ⟨rfl, rfl⟩
    · intro en hen _; exact List.mem_append.2 (.inl hen)
    · exact ⟨{ key := key i, val := v, born := clock }, List.mem_append.2 (.inr (by simp)), rfl, rfl⟩
    · refine List.pairwise_append.2 ⟨hH.one, by simp, fun a ha b hb => ?_⟩
      have : b = { key := key i, val := v, born := clock } := by simpa using hb
      rw [this]; exact h2 a ha
  | some p =>
    obtain ⟨j, v0⟩ := p
    obtain ⟨en, h3, h4, h5⟩ := h1 j v0 rfl
    have hj : (es.toArray[j]?).map (·.key) = some (key i) := by rw [List.getElem?_toArray, h3]; simp [h4]
    have hjl : j < es.length := (List.getElem?_eq_some_iff.1 h3).1
    have hgj : es[j] = en := (List.getElem?_eq_some_iff.1 h3).2
    refine e_done (w' := w.putObj m (.map (es.toArray.modify j fun e => { e with key := key i, val := v }) clock)) hw rfl (by
      simp [execOp, Instr.mapUpdate, run_underlying ht, hx, hy, hv, hg, hck, hr, hs, Instr.keyThatStays, h3, h4, hsb]) ?_
    have hat : ∀ a (ha : a < es.length), a ≠ j → es[a].key ≠ key i := fun a ha hne => by
      have hp := List.pairwise_iff_getElem.1 hH.one
      rcases Nat.lt_or_gt_of_ne hne with hlt | hlt
      · have := hp a j ha hjl hlt; rw [hgj, h4] at this; exact this
      · have := hp j a hjl ha hlt; rw [hgj, h4] at this; exact this.symm
    refine h (es.modify j fun e => { e with key := key i, val := v }) clock _ (by simp [World.putObj]) ?_ (grownBy_putObj _ _ _) (hH.put hinj ?_ ?_ ?_ ?_)
    · unfold MapAt; rw [putObj_self hlt]; simp
    · intro e2 hen
      obtain ⟨a, ha, rfl⟩ := List.mem_iff_getElem.1 hen
      have ha' : a < es.length := by simpa using ha
      rw [List.getElem_modify]
      split
      · exact .inr ⟨rfl, rfl⟩
      · rename_i hne; exact .inl ⟨List.getElem_mem _, hat a ha' (fun h => hne h.symm)⟩
    · intro e2 he2 hne
      obtain ⟨a, ha, rfl⟩ := List.mem_iff_getElem.1 he2
      refine List.mem_iff_getElem.2 ⟨a, by simpa using ha, ?_⟩
      rw [List.getElem_modify, if_neg]
      rintro rfl
      exact hne (by rw [hgj, h4])
    · refine ⟨{ en with key := key i, val := v }, List.mem_iff_getElem.2 ⟨j, by simpa using hjl, ?_⟩, rfl, rfl⟩
      rw [List.getElem_modify, if_pos rfl, hgj]
    · refine List.pairwise_iff_getElem.2 (fun a b ha hb hab => ?_)
      have ha' : a < es.length := by simpa using ha
      have hb' : b < es.length := by simpa using hb
      rw [List.getElem_modify, List.getElem_modify]
      have hp := List.pairwise_iff_getElem.1 hH.one a b ha' hb' hab
      split
      · rename_i h6
        subst h6
        rw [if_neg (by omega)]
        exact (hat b hb' (by omega)).symm
      · split
        · rename_i h6
          subst h6
          exact hat a ha' (by omega)
        · exact hp
end
end
/-! ### What work keeps: for each record its own dispatches, and all that can have sent it -/
def rowF (R : List SV) (i : Int) : Option Value := if 0 ≤ i ∧ (R.getD i.toNat sv0).xs ≠ [] then some (R.getD i.toNat sv0).enc else none
def canF (C : List (List Int)) (p : Int × Int) : Option Value := if 0 ≤ p.1 ∧ p.2 ∈ C.getD p.1.toNat [] then some (.bool true) else none
def WkMaps (w : World) (m1 m2 : Nat) (R : List SV) (C : List (List Int)) : Prop := m1 < m2 ∧ ∃ e1 c1 e2 c2, MapAt w m1 e1 c1 ∧ HoldsK vint e1 (rowF R) ∧ MapAt w m2 e2 c2 ∧ HoldsK pairV e2 (canF C)
theorem _root_.Go.Gv.MapAt.ext {w w' : World} {m ck : Nat} {es : List MapEntry} (h : MapAt w m es ck) (hE : Ext w w') : MapAt w' m es ck := h.keep (hE.block m h.lt (by simp))
theorem _root_.Go.Gv.MapAt.own {w w' : World} {m ck base e size n : Nat} {es : List MapEntry} {v : Value} {xs : List Value} (h : MapAt w m es ck) (ho : w.ownsRow base e size v n xs) (hG : w.grownBy w' v.ownBlock) : MapAt w' m es ck := h.keep (hG.block m h.lt (fun he => by
  rcases ho.2 with ⟨h1, _⟩ | ⟨g', cap', cur, h1, _, hg2, _⟩
  · rw [h1] at he; cases he
  · rw [h1] at he
    simp only [Value.ownBlock, Option.some.injEq] at he
    subst he
    exact h.unc _ _ _ hg2))
section
variable {w w' : World} {m1 m2 b k : Nat} {R : List SV} {C : List (List Int)} {s s' : SV} {cl : List Int}
theorem WkMaps.lt (h : WkMaps w m1 m2 R C) : m2 < w.heap.size := by obtain ⟨_, e1, c1, e2, c2, h1, h2, h3, h4⟩ := h; exact h3.lt
theorem WkMaps.ext (h : WkMaps w m1 m2 R C) (hE : Ext w w') : WkMaps w' m1 m2 R C := by obtain ⟨h0, e1, c1, e2, c2, h1, h2, h3, h4⟩ := h; exact ⟨h0, e1, c1, e2, c2, h1.ext hE, h2, h3.ext hE, h4⟩
theorem WkMaps.below (h : WkMaps w m1 m2 R C) (hB : Below w.heap.size w w') : WkMaps w' m1 m2 R C := h.ext (.of_below hB)
theorem WkMaps.upd (h : WkMaps w m1 m2 R C) (hG : w.grownBy w' (some b)) (hb : m2 < b ∨ (m1 ≠ b ∧ m2 ≠ b)) : WkMaps w' m1 m2 R C := by
  obtain ⟨h0, e1, c1, e2, c2, h1, h2, h3, h4⟩ := h
  exact ⟨h0, e1, c1, e2, c2, h1.keep (hG.block m1 h1.lt (by simp; omega)), h2, h3.keep (hG.block m2 h3.lt (by simp; omega)), h4⟩
theorem WkMaps.own {base e size n : Nat} {v : Value} {xs : List Value} (h : WkMaps w m1 m2 R C) (ho : w.ownsRow base e size v n xs) (hG : w.grownBy w' v.ownBlock) : WkMaps w' m1 m2 R C := by
  obtain ⟨h0, e1, c1, e2, c2, h1, h2, h3, h4⟩ := h
  exact ⟨h0, e1, c1, e2, c2, h1.own ho hG, h2, h3.own ho hG, h4⟩
theorem take_sg {α : Type} {l : List α} {d : α} (h : k < l.length) : l.take (k + 1) = l.take k ++ [l.getD k d] := by
  rw [List.take_add_one, List.getElem?_eq_getElem h, List.getD_eq_getElem?_getD, List.getElem?_eq_getElem h]; rfl
theorem rowF_sv0 : rowF (R ++ [sv0]) = rowF R := by
  funext i
  unfold rowF
  have : (R ++ [sv0]).getD i.toNat sv0 = R.getD i.toNat sv0 := by
    rw [List.getD_eq_getElem?_getD, List.getD_eq_getElem?_getD, List.getElem?_append]
    split
    · rfl
    · rename_i h
      rw [List.getElem?_eq_none (l := R) (by omega)]
      cases h2 : i.toNat - R.length with
      | zero => rfl
      | succ n => rfl
  rw [this]
theorem canF_nil : canF (C ++ [[]]) = canF C := by
  funext i
  unfold canF
  have : (C ++ [[]]).getD i.1.toNat [] = C.getD i.1.toNat [] := by
    rw [List.getD_eq_getElem?_getD, List.getD_eq_getElem?_getD, List.getElem?_append]
    split
    · rfl
    · rename_i h
      rw [List.getElem?_eq_none (l := C) (by omega)]
      cases h2 : i.1.toNat - C.length with
      | zero => rfl
      | succ n => rfl
  rw [this]
theorem WkMaps.start (h : WkMaps w m1 m2 R C) : WkMaps w m1 m2 (R ++ [sv0]) (C ++ [[]]) := by unfold WkMaps; rw [rowF_sv0, canF_nil]; exact h
theorem getD_last {α : Type} {l : List α} {x d : α} (hk : l.length = k) : (l ++ [x]).getD k d = x := by
  subst hk
  rw [List.getD_eq_getElem?_getD, List.getElem?_append_right (Nat.le_refl _), Nat.sub_self]; rfl
theorem getD_snoc_ne {α : Type} {l : List α} {x y d : α} {j : Nat} (hk : j ≠ l.length) : (l ++ [x]).getD j d = (l ++ [y]).getD j d := by
  rw [List.getD_eq_getElem?_getD, List.getD_eq_getElem?_getD, List.getElem?_append, List.getElem?_append]
  split
  · rfl
  · rename_i h
    obtain ⟨i, hi⟩ : ∃ i, j - l.length = i + 1 := ⟨j - l.length - 1, by omega⟩
    rw [hi]; rfl
theorem rowF_put (hR : R.length = k) (hne : s'.xs ≠ []) : ∀ i : Int, (if i = (k : Int) then some s'.enc else rowF (R ++ [s]) i) = rowF (R ++ [s']) i := fun i => by
  by_cases h : i = (k : Int)
  · subst h
    rw [if_pos rfl]
    unfold rowF
    rw [Int.toNat_natCast, getD_last hR, if_pos ⟨Int.natCast_nonneg _, hne⟩]
  · rw [if_neg h]
    unfold rowF
    by_cases h0 : 0 ≤ i
    · rw [getD_snoc_ne (x := s) (y := s') (by omega)]
    · rw [if_neg (fun h1 => h0 h1.1), if_neg (fun h1 => h0 h1.1)]
theorem canF_put {x : Int} (hC : C.length = k) : ∀ p : Int × Int, (if p = ((k : Int), x) then some (.bool true) else canF (C ++ [cl]) p) = canF (C ++ [cl ++ [x]]) p := fun p => by
  obtain ⟨i, y⟩ := p
  by_cases h : i = (k : Int)
  · subst h
    unfold canF
    simp only [Int.toNat_natCast, getD_last hC, Int.natCast_nonneg, true_and, Prod.mk.injEq, List.mem_append, List.mem_singleton]
    by_cases h2 : y = x
    · rw [if_pos h2, if_pos (.inr h2)]
    · rw [if_neg h2]
      by_cases h3 : y ∈ cl
      · rw [if_pos h3, if_pos (.inl h3)]
      · rw [if_neg h3, if_neg (fun h4 => h4.elim h3 h2)]
  · rw [if_neg (fun h1 => h (Prod.mk.inj h1).1)]
    unfold canF
    by_cases h0 : 0 ≤ i
    · simp only [getD_snoc_ne (x := cl) (y := cl ++ [x]) (d := ([] : List Int)) (l := C) (j := i.toNat) (by omega)]
    · rw [if_neg (fun h1 => h0 h1.1), if_neg (fun h1 => h0 h1.1)]
theorem rowF_look {es : List MapEntry} (h : HoldsK vint es (rowF (R ++ [s]))) (hR : R.length = k) (h0 : s.xs = [] → s = sv0) : (∀ e ∈ es, e.key = vint (k : Int) → s.enc = e.val) ∧ ((∀ e ∈ es, e.key ≠ vint (k : Int)) → s.enc = .slice none 0 0) := by
  have h1 := h.look vint_inj_ (k : Int) (.slice none 0 0)
  have h2 : (rowF (R ++ [s]) (k : Int)).getD (.slice none 0 0) = s.enc := by
    unfold rowF
    rw [Int.toNat_natCast, getD_last hR]
    by_cases hx : s.xs = []
    · rw [if_neg (fun h3 => h3.2 hx), h0 hx]; rfl
    · rw [if_pos ⟨Int.natCast_nonneg _, hx⟩]; rfl
  rwa [h2] at h1
theorem WkMaps.put2 {x : Int} {es : List MapEntry} {ck : Nat} (h : WkMaps w m1 m2 R (C ++ [cl])) (hM : MapAt w' m2 es ck) (hG : w.grownBy w' (some m2)) (hH : HoldsK pairV es (fun j => if j = ((k : Int), x) then some (.bool true) else canF (C ++ [cl]) j)) (hC : C.length = k) : WkMaps w' m1 m2 R (C ++ [cl ++ [x]]) := by
  obtain ⟨h0, e1, c1, e2, c2, h1, h2, h3, h4⟩ := h
  exact ⟨h0, e1, c1, es, ck, h1.keep (hG.block m1 h1.lt (by simp; omega)), h2, hM, hH.congr (canF_put hC)⟩
theorem WkMaps.put1 {es : List MapEntry} {ck : Nat} (h : WkMaps w m1 m2 (R ++ [s]) C) (hM : MapAt w' m1 es ck) (hG : w.grownBy w' (some m1)) (hH : HoldsK vint es (fun j => if j = (k : Int) then some s'.enc else rowF (R ++ [s]) j)) (hR : R.length = k) (hne : s'.xs ≠ []) : WkMaps w' m1 m2 (R ++ [s']) C := by
  obtain ⟨h0, e1, c1, e2, c2, h1, h2, h3, h4⟩ := h
  exact ⟨h0, es, ck, e2, c2, hM, hH.congr (rowF_put hR hne), h3.keep (hG.block m2 h3.lt (by simp; omega)), h4⟩
theorem row_lt_ {f : Int → Value} {a : Option Addr} {n c : Nat} {xs : List Int} (h : Row w a n c 1 (xs.map f)) (hne : xs ≠ []) : ∀ x, a = some x → x.block < w.heap.size := fun x hx => by
  rcases h.2.2 with h0 | ⟨b, o, ha, hc⟩
  · exact absurd (List.map_eq_nil_iff.1 h0) hne
  · rw [ha] at hx; cases hx
    have h1 := hc 0 (f (xs.getD 0 0)) (by
      rw [List.getElem?_map]
      cases xs with
      | nil => exact absurd rfl hne
      | cons y l => rfl)
    unfold Has World.cell? at h1
    cases h4 : w.heap[b]? with
    | none => simp [h4] at h1
    | some y => exact (Array.getElem?_eq_some_iff.1 h4).1
theorem row_low {a : Option Addr} {n c B : Nat} {xs : List Int} {row : Option Nat} (h : Row w a n c 1 (xs.map vint)) (hG : w.grownBy w' row) (hl : xs ≠ [] → ∀ x, a = some x → x.block < B) (hr : ∀ g, row = some g → B ≤ g) : Row w' a n c 1 (xs.map vint) := by
  by_cases hne : xs = []
  · subst hne
    exact ⟨h.1, h.2.1, .inl rfl⟩
  · refine h.step hG (fun x hx he => ?_)
    have h1 := hl hne x hx
    have h2 := hr x.block he.symm
    omega
def LowR (B : Nat) (R : List SV) : Prop := ∀ s ∈ R, s.xs ≠ [] → ∀ x, s.a = some x → x.block < B
theorem rows_low (h : RowsI w R) : LowR w.heap.size R := fun s hs hne x hx => row_lt_ (h s hs) hne x hx
theorem RowsI.low {B : Nat} {row : Option Nat} (h : RowsI w R) (hl : LowR B R) (hG : w.grownBy w' row) (hr : ∀ g, row = some g → B ≤ g) : RowsI w' R := fun s hs => row_low (h s hs) hG (hl s hs) hr
theorem some_ge {B g' : Nat} (h : B ≤ g') : ∀ g, some g' = some g → B ≤ g := fun g hg => by cases hg; exact h
theorem own_ge {B base e size n : Nat} {v : Value} {xs : List Value} (h : w.ownsRow base e size v n xs) (hb : B ≤ base) : ∀ g, v.ownBlock = some g → B ≤ g := fun g hg => Nat.le_trans hb (own_block_ge h hg)
theorem RowsI.snoc_own {B e : Nat} (h : RowsI w R) (hs : w.ownsRow B e 1 (.slice s.a s.xs.length s.c) s.xs.length (s.xs.map vint)) : RowsI w (R ++ [s]) := fun t ht => by
  rcases List.mem_append.1 ht with ht | ht
  · exact h t ht
  · have : t = s := by simpa using ht
    rw [this]; exact Row.of_owns hs
/-- the class of what is done between two reads: a block and a map stay -/
def ClsW (b : Nat) (cs : List Value) (m ck : Nat) (es : List MapEntry) (w w' : World) : Prop := (Blk w b cs → Blk w' b cs) ∧ (MapAt w m es ck → MapAt w' m es ck)
theorem ClsW.refl (b : Nat) (cs : List Value) (m ck : Nat) (es : List MapEntry) : ∀ w, ClsW b cs m ck es w w := fun _ => ⟨id, id⟩
theorem ClsW.trans (b : Nat) (cs : List Value) (m ck : Nat) (es : List MapEntry) : ∀ u v w, ClsW b cs m ck es u v → ClsW b cs m ck es v w → ClsW b cs m ck es u w := fun _ _ _ h1 h2 => ⟨fun h => h2.1 (h1.1 h), fun h => h2.2 (h1.2 h)⟩
theorem ClsW.ext {cs : List Value} {m ck : Nat} {es : List MapEntry} (h : Ext w w') : ClsW b cs m ck es w w' := ⟨fun h1 => h1.ext h, fun h1 => h1.ext h⟩
end
section
variable {l : Lg} {r : RC} {s s2 : SV} {cl c2 X : List Int} {q : Nat}
def falL (l : Lg) (r : RC) : List Int := if falB l r = true then [-1] else []
def candL (l : Lg) (r : RC) : List Int := ownL l r ++ falL l r
def preS (l : Lg) (r : RC) : Nat → List Int
  | 0 => []
  | _ + 1 => ownL l r
def preC (l : Lg) (r : RC) : Nat → List Int
  | 0 => []
  | 1 => ownL l r
  | _ + 2 => candL l r
def ne1 (x : Int) : Bool := !decide (x = -1)
theorem own_ne1 : (ownL l r).filter ne1 = ownL l r := List.filter_eq_self.2 (fun x hx => by
  unfold ownL at hx
  obtain ⟨i, _, rfl⟩ := List.mem_map.1 hx
  unfold ne1
  have : ¬ ((i : Int) = -1) := by omega
  rw [decide_eq_false this]; rfl)
theorem fal_ne1 : (falL l r).filter ne1 = [] := by unfold falL; split <;> rfl
theorem fal_le : (falL l r).length ≤ 1 := by unfold falL; split <;> decide
theorem own_le : (ownL l r).length ≤ l.J.length := by
  unfold ownL
  rw [List.length_map]
  exact Nat.le_trans (List.length_filter_le _ _) (by rw [List.length_range]; exact Nat.le_refl _)
theorem own_at {k : Nat} (h : k < (ownL l r).length) : ¬ (ownL l r).getD k 0 = -1 := fun he => by
  have h1 := getD_lt (d := (0 : Int)) h
  rw [he] at h1
  have h2 := own_ne1 (l := l) (r := r)
  rw [List.filter_eq_self] at h2
  have := h2 _ h1
  revert this; decide
theorem fal_at {k : Nat} (h : k < (falL l r).length) : (falL l r).getD k 0 = -1 := by
  unfold falL at h ⊢
  by_cases hf : falB l r = true
  · rw [if_pos hf] at h ⊢
    cases k with
    | zero => rfl
    | succ k => simp at h
  · rw [if_neg hf] at h; simp at h
theorem take_all (h : ¬ q < X.length) : X.take q = X := List.take_of_length_le (by omega)
theorem wk_s0 (h1 : s.xs = preS l r 0) (hX : X = ownL l r) (h2 : s2.xs = s.xs ++ (X.take q).filter ne1) (hq : ¬ q < X.length) : s2.xs = preS l r (0 + 1) := by
  rw [h2, h1, take_all hq, hX, own_ne1]; rfl
theorem wk_s1 (h1 : s.xs = preS l r 1) (hX : X = falL l r) (h2 : s2.xs = s.xs ++ (X.take q).filter ne1) (hq : ¬ q < X.length) : s2.xs = preS l r (1 + 1) := by
  rw [h2, h1, take_all hq, hX, fal_ne1, List.append_nil]; rfl
theorem wk_c0 (h1 : cl = preC l r 0) (hX : X = ownL l r) (h2 : c2 = cl ++ X.take q) (hq : ¬ q < X.length) : c2 = preC l r (0 + 1) := by
  rw [h2, h1, take_all hq, hX]; rfl
theorem wk_c1 (h1 : cl = preC l r 1) (hX : X = falL l r) (h2 : c2 = cl ++ X.take q) (hq : ¬ q < X.length) : c2 = preC l r (1 + 1) := by
  rw [h2, h1, take_all hq, hX]; rfl
theorem wk_len (h1 : s.xs = preS l r 0) (h2 : s2.xs = s.xs ++ (X.take q).filter ne1) (hX : X.length ≤ 8) : s2.xs.length ≤ 8 := by
  have h3 := List.length_filter_le ne1 (X.take q)
  rw [List.length_take] at h3
  rw [h2, h1]
  show (((X.take q).filter ne1)).length ≤ 8
  omega
theorem take_ne1 {x : Int} (hq : q < X.length) (hx : X.getD q 0 = x) (h : ne1 x = true) (h2 : s2.xs = s.xs ++ (X.take q).filter ne1) : s2.xs ++ [x] = s.xs ++ (X.take (q + 1)).filter ne1 := by
  rw [take_succ_getD hq, List.filter_append, h2, hx, List.filter_cons, if_pos h, List.append_assoc]; rfl
theorem take_e1 {x : Int} (hq : q < X.length) (hx : X.getD q 0 = x) (h : ne1 x = false) (h2 : s2.xs = s.xs ++ (X.take q).filter ne1) : s2.xs = s.xs ++ (X.take (q + 1)).filter ne1 := by
  rw [take_succ_getD hq, List.filter_append, h2, hx, List.filter_cons, if_neg (by rw [h]; decide)]; simp
theorem take_c {x : Int} (hq : q < X.length) (hx : X.getD q 0 = x) (h2 : c2 = cl ++ X.take q) : c2 ++ [x] = cl ++ X.take (q + 1) := by
  rw [take_succ_getD hq, h2, hx, List.append_assoc]
end



end Go.Proofs.YtekkdhpgcilpdaaGreat
