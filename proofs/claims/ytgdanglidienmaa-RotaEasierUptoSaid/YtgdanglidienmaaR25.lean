/- Contracts. -/
import Derived.Test.YtgdanglidienmaaRT
import Derived.Test.YtgdanglidienmaaGvPut
set_option linter.unusedVariables false
set_option linter.unusedSimpArgs false
namespace Go.Proofs.Ytgdanglidienmaa
open Go Go.RowKit Go.Gv Go.Fl

theorem flat_len (M : List PV) : (M.flatMap PV.enc).length = M.length * 3 := by
  induction M with
  | nil => rfl
  | cons x M ih => rw [List.flatMap_cons, List.length_append, ih]; show 3 + _ = (M.length + 1) * 3; omega
section
variable {P : Program} {ops : Array Oper} {e : Env} {w : World} {d : Option Nat} {ty : TypeId} {pos : String} {af : Array Edge} {g : Option (Nat × Bool)}
/-- the people with another Most at one place -/
def mostAt (M : List PV) (i : Nat) (m : Int) : List PV := M.set i { M.getD i pv0 with m := m }
theorem most_flat : ∀ (M : List PV) (i : Nat) (m : Int), i < M.length → (M.flatMap PV.enc).set (i * 3 + 2) (vint m) = (mostAt M i m).flatMap PV.enc
  | [], _, _, h => absurd h (Nat.not_lt_zero _)
  | x :: M, 0, m, _ => rfl
  | x :: M, i + 1, m, h => by
    have ih := most_flat M i m (by simpa using h)
    show (x.enc ++ M.flatMap PV.enc).set ((i + 1) * 3 + 2) (vint m) = x.enc ++ (mostAt M i m).flatMap PV.enc
    rw [← ih, List.set_append_right _ _ (by show 3 ≤ _; omega)]
    congr 2
    show (i + 1) * 3 + 2 - 3 = _
    omega
theorem o_store_most {K : Value → World → Prop} (M : List PV) (i : Nat) (m : Int) {t el : TypeId} {x y : Operand} {b o n c base : Nat} {a : Option Addr} (hsz : ∀ w, (sizeOf t).run P w = .ok 1 w) (hx : ev e x = ptr b (o + i * 3 + 2)) (ha : a = some ⟨b, o, none⟩) (hy : ev e y = vint m)
    (hown : w.ownsRow base el 3 (.slice a n c) n (M.flatMap PV.enc)) (hi : i < M.length) (hw : wantedE ops e ⟨d, .store t x y, ty, pos, af, g⟩ = true)
    (h : ∀ w', w'.heap.size = w.heap.size → w'.ownsRow base el 3 (.slice a n c) n ((mostAt M i m).flatMap PV.enc) → w.grownBy w' (Value.ownBlock (.slice a n c)) → K undef w') : EffAt P ops e w ⟨d, .store t x y, ty, pos, af, g⟩ K :=
  o_store_ownc (j := i * 3 + 2) hsz (by rw [← Nat.add_assoc]; exact hx) ha hy rfl rfl hown (by rw [flat_len]; omega) hw (fun w' hz ho hG => h w' hz (by rw [← most_flat M i m hi]; exact ho) hG)
end

/-- up to k: the people with Most 0 if they are not of xs -/
def zeroM (xs : List Int) (i : Nat) (x : PV) : PV := if hasI xs (i : Int) = true then x else { x with m := 0 }
def OnlyAt (xs : List Int) (k : Nat) (pl M : List PV) : Prop := M.length = pl.length ∧ ∀ i, i < pl.length → M.getD i pv0 = if i < k then zeroM xs i (pl.getD i pv0) else pl.getD i pv0
theorem only_zero {xs : List Int} {pl : List PV} : OnlyAt xs 0 pl pl := ⟨rfl, fun i _ => by rw [if_neg (Nat.not_lt_zero _)]⟩
theorem only_yes {xs : List Int} {k : Nat} {pl M : List PV} (h : OnlyAt xs k pl M) (hk : hasI xs (k : Int) = true) : OnlyAt xs (k + 1) pl M := ⟨h.1, fun i hi => by
  rw [h.2 i hi]
  by_cases h1 : i < k
  · rw [if_pos h1, if_pos (by omega)]
  · rw [if_neg h1]
    by_cases h2 : i = k
    · subst h2; rw [if_pos (by omega), zeroM, if_pos hk]
    · rw [if_neg (by omega)]⟩
theorem only_no {xs : List Int} {k : Nat} {pl M : List PV} (h : OnlyAt xs k pl M) (hk : hasI xs (k : Int) = false) : OnlyAt xs (k + 1) pl (mostAt M k 0) := ⟨by unfold mostAt; rw [List.length_set]; exact h.1, fun i hi => by
  unfold mostAt
  rw [List.getD_eq_getElem?_getD, List.getElem?_set]
  by_cases h2 : k = i
  · subst h2
    rw [if_pos rfl, if_pos (by rw [h.1]; exact hi), if_pos (by omega)]
    show { M.getD k pv0 with m := 0 } = _
    rw [h.2 k hi, if_neg (by omega), zeroM, if_neg (by rw [hk]; decide)]
  · rw [if_neg h2, ← List.getD_eq_getElem?_getD, h.2 i hi]
    by_cases h1 : i < k
    · rw [if_pos h1, if_pos (by omega)]
    · rw [if_neg h1, if_neg (by omega)]⟩
theorem only_rows {w : World} {xs : List Int} {pl M : List PV} (h : OnlyAt xs pl.length pl M) (hr : RowsP w pl) : RowsP w M := fun x hx => by
  obtain ⟨i, hi, rfl⟩ := List.mem_iff_getElem.1 hx
  have hi2 : i < pl.length := by rw [← h.1]; exact hi
  have h1 := h.2 i hi2
  rw [if_pos hi2, List.getD_eq_getElem?_getD, List.getElem?_eq_getElem hi] at h1
  have h2 := hr _ (getD_lt (d := pv0) hi2)
  rw [show M[i] = zeroM xs i (pl.getD i pv0) from h1]
  unfold zeroM
  split
  · exact h2
  · exact h2
theorem only_big {nd xs : List Int} {pl M : List PV} {L : List SV} (h : OnlyAt xs pl.length pl M) (hb : PoBig nd pl L) : PoBig nd M L := ⟨hb.1, by rw [h.1]; exact hb.2.1, hb.2.2.1, hb.2.2.2.1, fun x hx => by
  obtain ⟨i, hi, rfl⟩ := List.mem_iff_getElem.1 hx
  have hi2 : i < pl.length := by rw [← h.1]; exact hi
  have h1 := h.2 i hi2
  rw [if_pos hi2, List.getD_eq_getElem?_getD, List.getElem?_eq_getElem hi] at h1
  have h2 := hb.2.2.2.2 _ (getD_lt (d := pv0) hi2)
  rw [show M[i] = zeroM xs i (pl.getD i pv0) from h1]
  unfold zeroM
  split
  · exact h2
  · exact h2⟩
section
variable {xs nd : List Int} {pl M : List PV} {L : List SV} {R : List (List Int)}
theorem cnt_zero {i : Nat} : cntA i R = 0 ↔ ∀ on ∈ R, hasI on (i : Int) = false := by
  unfold cntA
  rw [List.length_eq_zero_iff, List.filter_eq_nil_iff]
  constructor
  · intro h on hon; have := h on hon; simpa using this
  · intro h on hon; rw [h on hon]; decide
theorem per_zero {x : PV} {i : Nat} (h : cntA i R = 0) (hm : 0 ≤ x.m) : perX x i R = true := by
  unfold perX
  rw [Bool.and_eq_true, List.all_eq_true, h]
  refine ⟨fun a ha => ?_, decide_eq_true (by exact hm)⟩
  unfold okA
  rw [cnt_zero.1 h _ (getD_lt (d := []) (List.mem_range.1 ha))]; rfl
theorem per_most {x : PV} {i : Nat} : perX { x with m := 0 } i R = true ↔ cntA i R = 0 := by
  constructor
  · intro h
    unfold perX at h
    rw [Bool.and_eq_true, decide_eq_true_eq] at h
    have := h.2
    show cntA i R = 0
    have h2 : (cntA i R : Int) ≤ 0 := this
    omega
  · intro h; exact per_zero h (Int.le_refl _)
theorem rules_only (h : OnlyAt xs pl.length pl M) (hm : ∀ x ∈ pl, 0 ≤ x.m) (hR : ∀ on ∈ R, risB on (pl.length : Int) = true) : rulesX M R = true ↔ rulesX pl R = true ∧ ∀ on ∈ R, ∀ i ∈ on, i ∈ xs := by
  unfold rulesX
  rw [List.all_eq_true, List.all_eq_true, h.1]
  have key : ∀ k, k < pl.length → M.getD k pv0 = zeroM xs k (pl.getD k pv0) := fun k hk => by rw [h.2 k hk, if_pos hk]
  constructor
  · intro h1
    refine ⟨fun k hk => ?_, fun on hon i hi => ?_⟩
    · have hk2 := List.mem_range.1 hk
      have h2 := h1 k hk
      rw [key k hk2, zeroM] at h2
      split at h2
      · exact h2
      · exact per_zero (per_most.1 h2) (hm _ (getD_lt hk2))
    · have h3 := (ris_iff.1 (hR on hon)).2 i hi
      have h2 := h1 i.toNat (List.mem_range.2 (by omega))
      rw [key _ (by omega), zeroM] at h2
      have h4 : ((i.toNat : Nat) : Int) = i := by omega
      split at h2
      · rename_i h5; rw [h4] at h5; exact has_iff.1 h5
      · have h5 := cnt_zero.1 (per_most.1 h2) on hon
        rw [h4, has_iff.2 hi] at h5; cases h5
  · rintro ⟨h1, h2⟩ k hk
    have hk2 := List.mem_range.1 hk
    rw [key k hk2, zeroM]
    split
    · exact h1 k hk
    · rename_i h3
      refine per_most.2 (cnt_zero.2 fun on hon => ?_)
      rw [← Bool.not_eq_true]
      intro h4
      exact h3 (has_iff.2 (h2 on hon _ (has_iff.1 h4)))
theorem only_fault (h : OnlyAt xs pl.length pl M) (hok : faultP (po nd pl L) = 0) : faultP (po nd M L) = 0 := by
  unfold faultP po at hok ⊢
  simp only [List.length_map, h.1] at hok ⊢
  split at hok
  · cases hok
  · rename_i h1
    rw [if_neg h1]
    split at hok
    · rename_i h2
      rw [if_pos]
      simp only [Bool.and_eq_true] at h2 ⊢
      refine ⟨⟨h2.1.1, ?_⟩, h2.2⟩
      have h3 := h2.1.2
      rw [List.all_eq_true] at h3 ⊢
      intro q hq
      obtain ⟨x, hx, rfl⟩ := List.mem_map.1 hq
      obtain ⟨i, hi, rfl⟩ := List.mem_iff_getElem.1 hx
      have hi2 : i < pl.length := by rw [← h.1]; exact hi
      have h4 := h.2 i hi2
      rw [if_pos hi2, List.getD_eq_getElem?_getD, List.getElem?_eq_getElem hi] at h4
      rw [show M[i] = zeroM xs i (pl.getD i pv0) from h4]
      have h5 := h3 _ (List.mem_map.2 ⟨_, getD_lt (d := pv0) hi2, rfl⟩)
      unfold zeroM
      split
      · exact h5
      · unfold okPerson at h5 ⊢
        rw [Bool.and_eq_true] at h5 ⊢
        exact ⟨h5.1, rfl⟩
    · cases hok
/-- with some people alone there is a safe rota, or none, as those people can or not -/
theorem only_best (h : OnlyAt xs pl.length pl M) (hok : faultP (po nd pl L) = 0) (hx : risB xs (pl.length : Int) = true) : (bestR nd M L).2.2 = if canP nd pl (L.map (·.xs)) xs = true then 0 else 10 := by
  have hok2 := only_fault h hok
  obtain ⟨_, ⟨hp1, hp4⟩, _, _, hpp, _⟩ := po_ok hok
  have hsame : ∀ R, IsR nd pl.length R → (chn nd M (L.map (·.xs)) 0 stood0 R = true ↔ chn nd pl (L.map (·.xs)) 0 stood0 R = true ∧ ∀ on ∈ R, ∀ i ∈ on, i ∈ xs) := fun R hR => by
    have h1 := chn_safe (C := L.map (·.xs)) hok hR
    have h2 := chn_safe (C := L.map (·.xs)) hok2 (T := R) (by rw [h.1]; exact hR)
    rw [← h1, ← h2]
    unfold safeX
    rw [Bool.and_eq_true, Bool.and_eq_true, rules_only h (fun x hx => (hpp x hx).2.2.1) hR.2, and_assoc]
  split
  · rename_i h1
    obtain ⟨R, hR, hin, hc⟩ := (can_iff hok hx).1 h1
    rcases best_spec hok2 with ⟨_, h3⟩ | ⟨T, h3, _⟩
    · have := (hsame R hR).2 ⟨hc, hin⟩
      rw [h3 R (by rw [h.1]; exact hR)] at this; cases this
    · rw [h3]
  · rename_i h1
    rcases best_spec hok2 with ⟨h3, _⟩ | ⟨T, _, h4, h5, _⟩
    · rw [h3]
    · rw [h.1] at h4
      obtain ⟨h6, h7⟩ := (hsame T h4).1 h5
      exact absurd ((can_iff hok hx).2 ⟨T, h4, h7, h6⟩) h1
end



end Go.Proofs.Ytgdanglidienmaa
