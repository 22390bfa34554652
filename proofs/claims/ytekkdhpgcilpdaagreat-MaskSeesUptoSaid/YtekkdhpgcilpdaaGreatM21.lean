/- Contracts. -/
import Derived.Test.YtekkdhpgcilpdaaGreatM20
set_option linter.unusedVariables false
set_option linter.unusedSimpArgs false
namespace Go.Proofs.YtekkdhpgcilpdaaGreat
open Go Go.RowKit Go.Gv Go.Fl
/-! ### Earlier seen: the walk's facts -/
section
variable {co : List Sg} {er : Int} {se X SE : List Int} {sl : List SN} {rl : List RC} {kn : Nat} {zb b b2 : Int} {D E : List SV}
theorem see_big (hb : LgBig co er se sl rl) (h : SE.length = se.length) : LgBig co er SE sl rl := ⟨hb.1, hb.2.1, by rw [h]; exact hb.2.2.1, hb.2.2.2⟩
theorem see_x (hok : faultM (lg co er se sl rl) = 0) (hk : kn < se.length) (hzb : 0 ≤ zb) (hX : X = if se.getD kn 0 < 0 then se.set kn (zb % 24) else se) : (-1 ≤ X.getD kn 0 ∧ X.getD kn 0 ≤ 23) ∧ X.length = se.length := by
  obtain ⟨_, _, _, _, _, hsr, _, _⟩ := lg_ok hok
  have h1 : -1 ≤ se.getD kn 0 ∧ se.getD kn 0 ≤ 23 := hsr _ (getD_lt (d := 0) hk)
  subst hX
  split
  · rw [List.getD_eq_getElem?_getD, List.getElem?_set_self hk]
    exact ⟨⟨by show -1 ≤ zb % 24; omega, by show zb % 24 ≤ 23; omega⟩, List.length_set⟩
  · exact ⟨h1, rfl⟩
theorem see_up (hok : faultM (lg co er se sl rl) = 0) (hk : kn < se.length) (hzb : 0 ≤ zb) (hX : X = if se.getD kn 0 < 0 then se.set kn (zb % 24) else se) (hS : SE = X.set kn (max 0 (X.getD kn 0 - zb % 5))) :
    SeesUp (lg co er se sl rl) (lg co er SE sl rl) ∧ faultM (lg co er SE sl rl) = 0 ∧ SE.length = se.length := by
  obtain ⟨_, _, _, _, _, hsr, _, _⟩ := lg_ok hok
  have hsr : ∀ n ∈ se, -1 ≤ n ∧ n ≤ 23 := hsr
  have h1 := hsr _ (getD_lt (d := 0) hk)
  obtain ⟨v, hv, hv2, hv3⟩ : ∃ v, SE = se.set kn v ∧ (0 ≤ v ∧ v ≤ 23) ∧ (se.getD kn 0 ≠ -1 → v ≤ se.getD kn 0) := by
    by_cases hn : se.getD kn 0 < 0
    · rw [if_pos hn] at hX
      have hx : X.getD kn 0 = zb % 24 := by rw [hX, List.getD_eq_getElem?_getD, List.getElem?_set_self hk]; rfl
      exact ⟨max 0 (zb % 24 - zb % 5), by rw [hS, hx, hX, List.set_set], by omega, fun h => by omega⟩
    · rw [if_neg hn] at hX
      subst hX
      exact ⟨max 0 (X.getD kn 0 - zb % 5), hS, by omega, fun h => by omega⟩
  have hl : SE.length = se.length := by rw [hv, List.length_set]
  refine ⟨?_, withS_ok hok hl (fun n hn => ?_), hl⟩
  · have h2 := put_see (l := lg co er se sl rl) (k := kn) (v := v) (fun h => ⟨by omega, hv3 h⟩) hk
    rw [hv]; exact h2
  · rw [hv] at hn
    rcases List.mem_or_eq_of_mem_set hn with h | h
    · exact hsr n h
    · omega
theorem tx_two (hok : faultM (lg co er se sl rl) = 0) (hD : D.map (·.xs) = textsL (lg co er se sl rl) b) : D.length ≤ 200 ∧ ∀ s ∈ D, s.xs.length ≤ 2097152 := by
  obtain ⟨_, hj8, _, _, _, _, hJn, _⟩ := lg_ok hok
  refine ⟨tx_len hJn hj8 hD, fun s hs => ?_⟩
  obtain ⟨j, hj, rfl⟩ := List.mem_iff_getElem.1 hs
  have h := (tx_ok hJn hD hj).2.1
  rw [List.getD_eq_getElem?_getD, List.getElem?_eq_getElem hj] at h
  exact Nat.le_trans h (by decide)
theorem see_in (hs : SeesUp (lg co er se sl rl) (lg co er SE sl rl)) (hD : D.map (·.xs) = textsL (lg co er se sl rl) b) (hE : E.map (·.xs) = textsL (lg co er SE sl rl) b) : insideB (D.map (·.xs)) (E.map (·.xs)) = true := inside_iff.2 (fun t ht => by rw [hE]; rw [hD] at ht; exact see_texts hs ht)
theorem later_in (h : b ≤ b2) (hD : D.map (·.xs) = textsL (lg co er se sl rl) b) (hE : E.map (·.xs) = textsL (lg co er se sl rl) b2) : insideB (D.map (·.xs)) (E.map (·.xs)) = true := inside_iff.2 (fun t ht => by rw [hE]; rw [hD] at ht; exact later_texts h ht)
theorem hour_yes (h : 0 ≤ b ∧ b ≤ 23) : hourB b = true := by unfold hourB; rw [decide_eq_true h.1, decide_eq_true h.2]; rfl
theorem rep_step {i : Nat} (hi : i < se.length) (h : X = List.replicate i (-1) ++ se.drop i) : X.set i (-1) = List.replicate (i + 1) (-1) ++ se.drop (i + 1) := by
  rw [h, List.set_append_right _ _ (by simp), List.length_replicate, Nat.sub_self, drop_getD (d := 0) hi, List.set_cons_zero, List.replicate_succ', List.append_assoc]; rfl
theorem blind_ok (hok : faultM (lg co er se sl rl) = 0) (h : X = List.replicate se.length (-1)) : faultM (lg co er X sl rl) = 0 ∧ (∀ b, textsL (lg co er X sl rl) b = []) ∧ ∀ r, falB (lg co er X sl rl) r = false := by
  obtain ⟨_, _, _, _, _, _, hJn, _⟩ := lg_ok hok
  have hst : ∀ s ∈ (lg co er se sl rl).J, s.st.toNat < se.length := fun s hs => by
    have := (hJn s hs).2.1
    have : s.st ≤ (se.length : Int) - 1 := this.2
    omega
  subst h
  exact ⟨withS_ok hok (by rw [List.length_replicate]; rfl) (fun n hn => by rw [List.eq_of_mem_replicate hn]; omega), fun b => blind_texts hst, fun r => blind_fal hst⟩
end
theorem own_apart2 {w w' : World} {e size n B : Nat} {v v2 : Value} {xs : List Value} (h : w.ownsRow B e size v n xs) (hlt : ∀ g, v2.ownBlock = some g → g < B) (hG : w.grownBy w' v2.ownBlock) : w'.ownsRow B e size v n xs :=
  own_keepB h (fun g hg => hG.block g (h.lt g hg).2 (fun he => by have h1 := own_block_ge h hg; have h2 := hlt g he.symm; omega))



end Go.Proofs.YtekkdhpgcilpdaaGreat
