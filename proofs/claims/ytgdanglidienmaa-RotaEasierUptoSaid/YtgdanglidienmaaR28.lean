/- Contracts. -/
import Derived.Test.YtgdanglidienmaaRT
import Derived.Test.YtgdanglidienmaaR25
import Derived.Test.YtgdanglidienmaaR24
import Derived.Test.YtgdanglidienmaaGvPut
import Derived.Maps.AppendAt
set_option linter.unusedVariables false
set_option linter.unusedSimpArgs false
namespace Go.Proofs.Ytgdanglidienmaa
open Go Go.RowKit Go.Gv Go.Fl

/-- a person who may stand all that another one may -/
def Eases (x y : PV) : Prop := (∀ a, x.ab.getD a false = true → y.ab.getD a false = true) ∧ y.r ≤ x.r ∧ x.m ≤ y.m
theorem Eases.refl (x : PV) : Eases x x := ⟨fun _ h => h, Int.le_refl _, Int.le_refl _⟩
theorem ease_per {x y : PV} {i : Nat} {R : List (List Int)} (h : Eases x y) (hp : perX x i R = true) : perX y i R = true := by
  unfold perX at hp ⊢
  rw [Bool.and_eq_true, List.all_eq_true, decide_eq_true_eq] at hp ⊢
  refine ⟨fun a ha => ?_, Int.le_trans hp.2 h.2.2⟩
  have h1 := hp.1 a ha
  unfold okA at h1 ⊢
  rw [Bool.or_eq_true, Bool.and_eq_true, List.all_eq_true] at h1 ⊢
  rcases h1 with h1 | ⟨h1, h2⟩
  · exact .inl h1
  · refine .inr ⟨h.1 a h1, fun b hb => ?_⟩
    have h3 := h2 b hb
    rw [Bool.or_eq_true, decide_eq_true_eq] at h3 ⊢
    exact h3.imp id (fun h4 => Int.le_trans h.2.1 h4)
theorem ease_set {pl : List PV} {R : List (List Int)} {k : Nat} {y : PV} (he : Eases (pl.getD k pv0) y) (h : rulesX pl R = true) : rulesX (pl.set k y) R = true := by
  unfold rulesX at h ⊢
  rw [List.all_eq_true] at h ⊢
  rw [List.length_set]
  intro i hi
  have h1 := h i hi
  rw [List.getD_eq_getElem?_getD, List.getElem?_set]
  by_cases h2 : k = i
  · subst h2
    rw [if_pos rfl, if_pos (List.mem_range.1 hi)]
    exact ease_per he h1
  · rw [if_neg h2, ← List.getD_eq_getElem?_getD]
    exact h1
theorem ease_app {pl : List PV} {R : List (List Int)} {x : PV} (hm : 0 ≤ x.m) (hR : ∀ on ∈ R, risB on (pl.length : Int) = true) (h : rulesX pl R = true) : rulesX (pl ++ [x]) R = true := by
  unfold rulesX at h ⊢
  rw [List.all_eq_true] at h ⊢
  rw [List.length_append]
  intro i hi
  have hi2 := List.mem_range.1 hi
  rw [List.length_cons, List.length_nil] at hi2
  rw [List.getD_eq_getElem?_getD]
  rcases Nat.lt_or_ge i pl.length with h2 | h2
  · rw [List.getElem?_append_left h2, ← List.getD_eq_getElem?_getD]
    exact h i (List.mem_range.2 h2)
  · obtain rfl : i = pl.length := by omega
    rw [List.getElem?_append_right (Nat.le_refl _), Nat.sub_self]
    show perX x pl.length R = true
    have h3 : cntA pl.length R = 0 := by
      unfold cntA
      rw [List.length_eq_zero_iff, List.filter_eq_nil_iff]
      intro on hon h4
      have h5 := (ris_iff.1 (hR on hon)).2 _ (has_iff.1 h4)
      omega
    unfold perX
    rw [Bool.and_eq_true, List.all_eq_true, h3]
    refine ⟨fun a ha => ?_, decide_eq_true hm⟩
    unfold okA
    rw [Bool.or_eq_true, Bool.not_eq_true', ← Bool.not_eq_true]
    refine .inl fun h4 => ?_
    have h5 := (ris_iff.1 (hR _ (getD_lt (d := []) (List.mem_range.1 ha)))).2 _ (has_iff.1 h4)
    omega
/-- up to c: the cases with the k-th number once more behind them -/
def AppAt (k c : Nat) (L M : List SV) : Prop := M.length = L.length ∧ ∀ i, i < L.length → (M.getD i sv0).xs = if i < c then (L.getD i sv0).xs ++ [(L.getD i sv0).xs.getD k 0] else (L.getD i sv0).xs
theorem app_zero {k : Nat} {L M : List SV} (hm : M.map (·.xs) = L.map (·.xs)) : AppAt k 0 L M := by
  have hl := congrArg List.length hm
  rw [List.length_map, List.length_map] at hl
  exact ⟨hl, fun i hi => by rw [if_neg (Nat.not_lt_zero _), ← xs_at, hm, xs_at]⟩
theorem app_step {k c : Nat} {L M : List SV} {s : SV} (h : AppAt k c L M) (hc : c < L.length) (hs : s.xs = (M.getD c sv0).xs ++ [(L.getD c sv0).xs.getD k 0]) : AppAt k (c + 1) L (M.set c s) := ⟨by rw [List.length_set]; exact h.1, fun i hi => by
  rw [List.getD_eq_getElem?_getD, List.getElem?_set]
  by_cases h2 : c = i
  · subst h2
    rw [if_pos rfl, if_pos (by rw [h.1]; exact hc), if_pos (by omega)]
    show s.xs = _
    rw [hs, h.2 c hi, if_neg (by omega)]
  · rw [if_neg h2, ← List.getD_eq_getElem?_getD, h.2 i hi]
    by_cases h1 : i < c
    · rw [if_pos h1, if_pos (by omega)]
    · rw [if_neg h1, if_neg (by omega)]⟩
theorem awk_app {fl : Bool} {ix xs : List Int} {v wt : Int} (h : ∀ x ∈ xs, 0 ≤ x ∧ x ≤ (ix.length : Int) - 1) : awkN fl (ix ++ [v]) wt xs = awkN fl ix wt xs := by
  unfold awkN
  have h1 : xs.filter (awkB fl (ix ++ [v]) wt) = xs.filter (awkB fl ix wt) := List.filter_congr fun x hx => by
    have h2 := h x hx
    unfold awkB
    rw [show (ix ++ [v]).getD x.toNat 0 = ix.getD x.toNat 0 by rw [List.getD_eq_getElem?_getD, List.getElem?_append_left (by omega), ← List.getD_eq_getElem?_getD]]
  rw [h1]
theorem easy_fail {nd : List Int} {T : List (List Int)} {L M : List SV} {p k c : Nat} (hT : ∀ on ∈ T, risB on (p : Int) = true) (hx : ∀ s ∈ L, s.xs.length = p) (hM : AppAt k L.length L M) (h : failX nd T (L.map (·.xs)) c < 0) : failX nd T (M.map (·.xs)) c < 0 := by
  unfold failX at h ⊢
  rw [idx_neg] at h ⊢
  intro j hj
  have h1 := h j hj
  rw [List.length_map] at h1 ⊢
  rw [hM.1]
  by_cases hc : c < L.length
  · have h2 := hM.2 c hc
    rw [if_pos hc] at h2
    rw [xs_at] at h1 ⊢
    rw [h2, awk_app (fun x hx2 => by
      have h3 := (ris_iff.1 (hT _ (getD_lt (d := []) hj))).2 x hx2
      rw [hx _ (getD_lt (d := sv0) hc)]
      exact h3)]
    exact h1
  · rw [decide_eq_true (show L.length ≤ c by omega)] at h1 ⊢
    exact h1
theorem easy_hard {nd : List Int} {pl M : List PV} {L L2 : List SV} (hok : faultP (po nd pl L) = 0) (hok2 : faultP (po nd M L2) = 0) (hl : pl.length ≤ M.length) (hl2 : L2.length = L.length)
    (hr : ∀ R, IsR nd pl.length R → rulesX pl R = true → rulesX M R = true) (hf : ∀ R c, IsR nd pl.length R → failX nd R (L.map (·.xs)) c < 0 → failX nd R (L2.map (·.xs)) c < 0) :
    ∀ R, IsR nd pl.length R → chn nd pl (L.map (·.xs)) 0 stood0 R = true → IsR nd M.length R ∧ chn nd M (L2.map (·.xs)) 0 stood0 R = true := fun R hR h => by
  have hR2 : IsR nd M.length R := ⟨hR.1, fun on hon => ris_up (hR.2 on hon) (by omega)⟩
  refine ⟨hR2, ?_⟩
  rw [← chn_safe hok hR] at h
  rw [← chn_safe hok2 hR2]
  unfold safeX at h ⊢
  rw [Bool.and_eq_true, List.all_eq_true] at h ⊢
  refine ⟨fun c hc => ?_, hr R hR h.2⟩
  have h1 := h.1 c (by rw [List.length_map] at hc ⊢; rwa [hl2] at hc)
  exact decide_eq_true (hf R c hR (of_decide_eq_true h1))
theorem hard_same {nd : List Int} {pl : List PV} {L : List SV} {k : Nat} {y : PV} (hok : faultP (po nd pl L) = 0) (he : Eases (pl.getD k pv0) y) (hok2 : faultP (po nd (pl.set k y) L) = 0) :
    ∀ R, IsR nd pl.length R → chn nd pl (L.map (·.xs)) 0 stood0 R = true → IsR nd (pl.set k y).length R ∧ chn nd (pl.set k y) (L.map (·.xs)) 0 stood0 R = true :=
  easy_hard hok hok2 (by rw [List.length_set]; exact Nat.le_refl _) rfl (fun _ _ h => ease_set he h) (fun _ _ _ h => h)
theorem hard_more {nd : List Int} {pl : List PV} {L M : List SV} {k : Nat} {x : PV} (hok : faultP (po nd pl L) = 0) (hm : 0 ≤ x.m) (hM : AppAt k L.length L M) (hok2 : faultP (po nd (pl ++ [x]) M) = 0) :
    ∀ R, IsR nd pl.length R → chn nd pl (L.map (·.xs)) 0 stood0 R = true → IsR nd (pl ++ [x]).length R ∧ chn nd (pl ++ [x]) (M.map (·.xs)) 0 stood0 R = true :=
  easy_hard hok hok2 (by rw [List.length_append]; omega) hM.1 (fun _ hR h => ease_app hm hR.2 h) (fun _ _ hR h => easy_fail hR.2 (fun s hs => ((po_ok hok).2.2.2.2.2 s hs).1) hM h)

section
variable {P : Program} {ops : Array Oper} {e : Env} {w : World} {d : Option Nat} {ty : TypeId} {pos : String} {af : Array Edge} {g : Option (Nat × Bool)}
theorem pv_flat : ∀ (M : List PV) (i j : Nat) (y : PV) (v : Value), i < M.length → j < 3 → y.enc = (M.getD i pv0).enc.set j v → (M.flatMap PV.enc).set (i * 3 + j) v = (M.set i y).flatMap PV.enc
  | [], _, _, _, _, h, _, _ => absurd h (Nat.not_lt_zero _)
  | x :: M, 0, j, y, v, _, hj, hy => by
    show (x.enc ++ M.flatMap PV.enc).set (0 * 3 + j) v = y.enc ++ M.flatMap PV.enc
    rw [hy, Nat.zero_mul, Nat.zero_add, List.set_append_left _ _ (by show j < 3; exact hj)]; rfl
  | x :: M, i + 1, j, y, v, h, hj, hy => by
    have ih := pv_flat M i j y v (by simpa using h) hj hy
    show (x.enc ++ M.flatMap PV.enc).set ((i + 1) * 3 + j) v = x.enc ++ (M.set i y).flatMap PV.enc
    rw [← ih, List.set_append_right _ _ (by show 3 ≤ _; omega)]
    congr 2
    show (i + 1) * 3 + j - 3 = _
    omega
theorem o_store_pv {K : Value → World → Prop} (M : List PV) (i j : Nat) (z : PV) (v : Value) {t el : TypeId} {x y : Operand} {b o n c base : Nat} {a : Option Addr} (hsz : ∀ w, (sizeOf t).run P w = .ok 1 w) (hx : ev e x = ptr b (o + i * 3 + j)) (ha : a = some ⟨b, o, none⟩) (hy : ev e y = v) (hv : v.cells = ⟨[v]⟩) (h1 : v.oneCell' = true)
    (hz : z.enc = (M.getD i pv0).enc.set j v) (hj : j < 3) (hown : w.ownsRow base el 3 (.slice a n c) n (M.flatMap PV.enc)) (hi : i < M.length) (hw : wantedE ops e ⟨d, .store t x y, ty, pos, af, g⟩ = true)
    (h : ∀ w', w'.heap.size = w.heap.size → w'.ownsRow base el 3 (.slice a n c) n ((M.set i z).flatMap PV.enc) → w.grownBy w' (Value.ownBlock (.slice a n c)) → K undef w') : EffAt P ops e w ⟨d, .store t x y, ty, pos, af, g⟩ K :=
  o_store_ownc (j := i * 3 + j) hsz (by rw [← Nat.add_assoc]; exact hx) ha hy hv h1 hown (by rw [flat_len]; omega) hw (fun w' hz' ho hG => h w' hz' (by rw [← pv_flat M i j z v hi hj hz]; exact ho) hG)
end
theorem set_penc {M : List PV} {k : Nat} {z z' : PV} (h : z'.enc = z.enc) : (M.set k z').flatMap PV.enc = (M.set k z).flatMap PV.enc := by
  rw [List.flatMap_def, List.flatMap_def, List.map_set, List.map_set, h]
theorem gps {M : List PV} {k : Nat} {z : PV} (h : k < M.length) : (M.set k z).getD k pv0 = z := by rw [List.getD_eq_getElem?_getD, List.getElem?_set, if_pos rfl, if_pos h]; rfl
theorem cells_pv {w : World} {a : Option Addr} {n c b o i : Nat} {M : List PV} (h : Row w a n c 3 (M.flatMap PV.enc)) (ha : a = some ⟨b, o, none⟩) (hi : i < n) (hn : M.length = n) : Cells w b (o + i * 3) (M.getD i pv0).enc := by
  obtain ⟨b', o', ha', hh⟩ := h.at (by decide) i hi
  cases ha.symm.trans ha'
  exact cells_cast (wide_at PV.len pv0 _ _ (by omega)) hh
theorem rowsP_set {w : World} {M : List PV} {i : Nat} {z : PV} (h : RowsP w M) (hz : Row w z.a z.ab.length z.c 1 (z.ab.map Value.bool)) : RowsP w (M.set i z) := fun x hx => by
  rcases List.mem_or_eq_of_mem_set hx with h1 | rfl
  · exact h x h1
  · exact hz
theorem rowsP_app {w : World} {M : List PV} {z : PV} (h : RowsP w M) (hz : Row w z.a z.ab.length z.c 1 (z.ab.map Value.bool)) : RowsP w (M ++ [z]) := fun x hx => by
  rcases List.mem_append.1 hx with h1 | h1
  · exact h x h1
  · obtain rfl : x = z := by simpa using h1
    exact hz
theorem big_pset {nd : List Int} {pl : List PV} {L : List SV} {k : Nat} {z : PV} (hb : PoBig nd pl L) (hz : z.ab.length ≤ 2097152) : PoBig nd (pl.set k z) L := ⟨hb.1, by rw [List.length_set]; exact hb.2.1, hb.2.2.1, hb.2.2.2.1, fun x hx => by
  rcases List.mem_or_eq_of_mem_set hx with h1 | rfl
  · exact hb.2.2.2.2 x h1
  · exact hz⟩
theorem big_papp {nd : List Int} {pl : List PV} {L M : List SV} {k i : Nat} (hb : PoBig nd pl L) (hp4 : pl.length ≤ 4) (hi : i < pl.length) (hM : AppAt k L.length L M) (hl : ∀ s ∈ L, s.xs.length ≤ 4) : PoBig nd (pl ++ [pl.getD i pv0]) M := ⟨hb.1, by rw [List.length_append, List.length_cons, List.length_nil]; omega, by rw [hM.1]; exact hb.2.2.1, fun s hs => by
  obtain ⟨j, hj, rfl⟩ := List.mem_iff_getElem.1 hs
  have hj2 : j < L.length := by rw [← hM.1]; exact hj
  have h1 := hM.2 j hj2
  rw [if_pos hj2] at h1
  have h3 : M.getD j sv0 = M[j] := by rw [List.getD_eq_getElem?_getD, List.getElem?_eq_getElem hj]; rfl
  rw [← h3, h1, List.length_append, List.length_cons, List.length_nil]
  have := hl _ (getD_lt (d := sv0) hj2)
  omega, fun x hx => by
  rcases List.mem_append.1 hx with h1 | h1
  · exact hb.2.2.2.2 x h1
  · obtain rfl : x = pl.getD i pv0 := by simpa using h1
    exact hb.2.2.2.2 _ (getD_lt hi)⟩
theorem ease_able {x : PV} {a : Option Addr} {c k : Nat} : Eases x ⟨a, c, ([] ++ x.ab).set k true, x.r, x.m⟩ := ⟨fun j h => by
  show (x.ab.set k true).getD j false = true
  rw [List.getD_eq_getElem?_getD, List.getElem?_set]
  split
  · split
    · rfl
    · rename_i h1 h2
      subst h1
      rw [List.getD_eq_getElem?_getD, List.getElem?_eq_none (by omega)] at h
      exact h
  · rw [← List.getD_eq_getElem?_getD]; exact h, Int.le_refl _, Int.le_refl _⟩
/-- a class for each operation: up to t a block is kept, from t on nothing old turns -/
def ClsR (b : Nat) (cs : List Value) (t : Nat) (y : Nat) (w w' : World) : Prop := if y ≤ t then (Blk w b cs → Blk w' b cs) else Ext w w'
theorem ClsR.refl (b : Nat) (cs : List Value) (t : Nat) : ∀ y w, ClsR b cs t y w w := fun y w => by
  unfold ClsR; split
  · exact fun h => h
  · exact Ext.refl w
theorem ClsR.trans (b : Nat) (cs : List Value) (t : Nat) : ∀ y u v w, ClsR b cs t y u v → ClsR b cs t y v w → ClsR b cs t y u w := fun y u v w h h' => by
  unfold ClsR at *; split
  · rename_i hy; rw [if_pos hy] at h h'; exact fun x => h' (h x)
  · rename_i hy; rw [if_neg hy] at h h'; exact h.trans h'
theorem ClsR.ext {b : Nat} {cs : List Value} {t : Nat} {w w' : World} (h : Ext w w') (y : Nat) : ClsR b cs t y w w' := by
  unfold ClsR; split
  · exact fun x => x.ext h
  · exact h
theorem ClsR.put {b : Nat} {cs : List Value} {t y : Nat} {w w' : World} (hy : y ≤ t) (h : Blk w b cs → Blk w' b cs) : ClsR b cs t y w w' := by unfold ClsR; rw [if_pos hy]; exact h
theorem ClsR.get {b : Nat} {cs : List Value} {t y : Nat} {w w' : World} (h : ClsR b cs t y w w') (hy : y ≤ t) (hb : Blk w b cs) : Blk w' b cs := by unfold ClsR at h; rw [if_pos hy] at h; exact h hb
theorem ClsR.up {b : Nat} {cs : List Value} {t y : Nat} {w w' : World} (h : ClsR b cs t y w w') (hy : ¬ y ≤ t) : Ext w w' := by unfold ClsR at h; rwa [if_neg hy] at h
/-- append to a row of one's own: where the new row lies -/
theorem o_append_at {α : Type} {f : α → Value} (xs ys : List α) {P : Program} {ops : Array Oper} {e : Env} {w : World} {d : Option Nat} {ty : TypeId} {pos : String} {af : Array Edge} {g : Option (Nat × Bool)} {K : Value → World → Prop} {t el : TypeId} {at_ : Array TypeId} {x y : Operand} {z : Value} {bytes base : Nat} {a a2 : Option Addr} {c c2 : Nat} (ht : P.underlying t = some (.slice el)) (he : Elem P el z 1 bytes) (hat : at_ = #[t, t])
    (hx : ev e x = .slice a xs.length c) (hown : w.ownsRow base el 1 (.slice a xs.length c) xs.length (xs.map f)) (hy : ev e y = .slice a2 ys.length c2) (hrow : Row w a2 ys.length c2 1 (ys.map f)) (hne : 0 < ys.length) (h1 : ∀ x, (f x).oneCell' = true)
    (hbytes : xs.length + ys.length ≤ 140737488355328 ∧ (xs.length + ys.length) * bytes ≤ 140737488355328) (hbase : base ≤ w.heap.size)
    (hw : wantedE ops e ⟨d, .call ⟨.builtin .append, #[x, y], at_⟩, ty, pos, af, g⟩ = true)
    (h : ∀ a' c' w', w.heap.size ≤ w'.heap.size → w'.ownsRow base el 1 (.slice a' (xs ++ ys).length c') (xs ++ ys).length ((xs ++ ys).map f) → w.grownBy w' (Value.ownBlock (.slice a xs.length c)) →
      ((Value.slice a' (xs ++ ys).length c').ownBlock = (Value.slice a xs.length c).ownBlock ∨ (Value.slice a' (xs ++ ys).length c').ownBlock = some w.heap.size) →
      K (.slice a' (xs ++ ys).length c') w') : EffAt P ops e w ⟨d, .call ⟨.builtin .append, #[x, y], at_⟩, ty, pos, af, g⟩ K := by
  subst hat
  obtain ⟨i, hi, hz, hs, hby⟩ := he.info
  rcases hrow.2.2 with h0 | ⟨b, o, ha, hc⟩
  · have h2 := congrArg List.length h0
    rw [List.length_map, List.length_nil] at h2
    omega
  · subst ha
    obtain ⟨v', w', hr, h2, h3, _, h5⟩ := run_append_own_at (P := P) (w := w) base t ty el i z 1 bytes ht hi hz hs hby he.zs he.pos (.slice a xs.length c) xs.length (xs.map f) hown ⟨b, o, none⟩ ys.length c2 (ys.map f) hrow.1
      (fun j u hj => by rw [Addr.add_lit]; exact hc j u hj) (fun u hu => by obtain ⟨q, _, rfl⟩ := List.mem_map.1 hu; exact h1 q) (by unfold maxLen; omega) hbytes.2 hbase
    obtain ⟨a', c', rfl⟩ := owns_slice h2
    refine e_value (v := .slice a' (xs.length + ys.length) c') (w' := w') hw rfl ?_ (by
      have h6 := h a' c' w' h3.size (by rw [List.length_append, List.map_append]; exact h2) h3 (by rw [List.length_append]; exact h5)
      rwa [List.length_append] at h6)
    simp [execOp, resolve, invoke, builtin, hx, hy, hr]
/-- one row is laid anew, the others stay: still each in a block of its own -/
theorem Dis.set2 {w : World} {B el c : Nat} {M : List SV} {s : SV} (h : Dis M) (ho : OwnsI w B el M) (hc : c < M.length) (hs : s.enc.ownBlock = (M.getD c sv0).enc.ownBlock ∨ s.enc.ownBlock = some w.heap.size) : Dis (M.set c s) := by
  rcases hs with hs | hs
  · exact Dis.set h hs
  · have hu := OwnsI.under ho
    unfold Dis
    rw [List.pairwise_iff_getElem]
    have key : ∀ k (hk : k < (M.set c s).length), k ≠ c → ((M.set c s)[k]).enc.ownBlock = (M.getD k sv0).enc.ownBlock ∧ ∀ g, ((M.set c s)[k]).enc.ownBlock = some g → g < w.heap.size := fun k hk hne => by
      rw [List.length_set] at hk
      rw [List.getElem_set, if_neg (fun e => hne e.symm)]
      refine ⟨by rw [List.getD_eq_getElem?_getD, List.getElem?_eq_getElem hk]; rfl, fun g hg => hu _ (List.getElem_mem hk) g hg⟩
    have keyc : ∀ k (hk : k < (M.set c s).length), k = c → ((M.set c s)[k]).enc.ownBlock = some w.heap.size := fun k hk he => by
      subst he; rw [List.getElem_set, if_pos rfl]; exact hs
    intro a b ha hb hab g hg
    by_cases h1 : a = c
    · rw [keyc a ha h1] at hg
      cases hg
      intro h2
      exact Nat.lt_irrefl _ ((key b hb (by omega)).2 _ h2)
    · by_cases h2 : b = c
      · rw [keyc b hb h2]
        intro h3
        cases h3
        exact Nat.lt_irrefl _ ((key a ha h1).2 _ hg)
      · rw [(key a ha h1).1] at hg
        rw [(key b hb h2).1]
        rw [List.length_set] at ha hb
        exact h.apart ha hb (by omega) g hg



end Go.Proofs.Ytgdanglidienmaa
