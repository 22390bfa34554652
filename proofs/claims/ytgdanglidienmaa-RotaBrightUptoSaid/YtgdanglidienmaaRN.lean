/- Contracts. -/
import Derived.Test.YtgdanglidienmaaRM
import Derived.Test.YtgdanglidienmaaR26
set_option linter.unusedVariables false
set_option linter.unusedSimpArgs false
namespace Go.Proofs.Ytgdanglidienmaa
open Go Go.RowKit Go.Gv Go.Fl

section
variable {fl : Int} {G : List RG} {xs ys : List Int}
theorem pol_no' (hm : mfault fl G = 0) (h : ¬ (polishM fl G).1 = 0) : polishM fl G = (10, []) ∧ ∀ l, risB l (G.length : Int) = true → staysB fl G l = false := by
  rcases polish_spec hm with h1 | ⟨l, h1, _⟩
  · exact h1
  · rw [h1] at h; exact absurd rfl h
theorem pol_yes' (hm : mfault fl G = 0) (h : (polishM fl G).1 = 0) : risB (polishM fl G).2 (G.length : Int) = true ∧ staysB fl G (polishM fl G).2 = true ∧ ∀ l', risB l' (G.length : Int) = true → staysB fl G l' = true → ltL l' (polishM fl G).2 = false := by
  rcases polish_spec hm with ⟨h1, _⟩ | ⟨l, h1, h2⟩
  · rw [h1] at h; exact absurd h (by decide)
  · rw [h1]; exact h2
theorem pol_or (hm : mfault fl G = 0) : (polishM fl G).1 = 0 ∨ (polishM fl G).1 = 10 := by
  rcases polish_spec hm with ⟨h1, _⟩ | ⟨l, h1, _⟩
  · rw [h1]; exact .inr rfl
  · rw [h1]; exact .inl rfl
theorem poll_len (hm : mfault fl G = 0) : (polishM fl G).2.length ≤ 8 := by
  obtain ⟨_, ⟨_, hg8⟩, _⟩ := mf_ok hm
  rcases polish_spec hm with ⟨h1, _⟩ | ⟨l, h1, h2, _⟩
  · rw [h1]; decide
  · rw [h1]; exact Nat.le_trans (ris_len h2) hg8
/-- the brightness with a longer list is no less -/
theorem br_mono (hm : mfault fl G = 0) (h1 : risB xs (G.length : Int) = true) (h2 : risB ys (G.length : Int) = true) (hxy : ∀ i ∈ xs, i ∈ ys) {k : Nat} (hk : k < G.length) :
    ((brightM fl G xs).2.getD k rg0).lo ≤ ((brightM fl G ys).2.getD k rg0).lo ∧ ((brightM fl G xs).2.getD k rg0).hi ≤ ((brightM fl G ys).2.getD k rg0).hi := by
  obtain ⟨_, _, hrg⟩ := mf_ok hm
  have hnn : ∀ b : Bool, ∀ k, 0 ≤ (G.map (pkB b)).getD k 0 := fun b k => map_nn (fun x hx => (pk_bnd hrg _ (List.mem_map.2 ⟨x, hx, rfl⟩)).1) k
  rw [bright_lo hm h1 hk, bright_lo hm h2 hk, bright_hi hm h1 hk, bright_hi hm h2 hk, dimsT_at hk, dimsT_at hk, dimsT_at hk, dimsT_at hk]
  exact ⟨nowT_mono hxy (hnn true) _ (fun _ _ => Int.le_refl _), nowT_mono hxy (hnn false) _ (fun _ _ => Int.le_refl _)⟩
theorem dim_1 {d : Bool} {p : Nat → Bool} {i : Nat} (h : d = !(List.range i).all p) (hd : d = true) : true = !(List.range (i + 1)).all p := by
  rw [List.range_succ, List.all_append]
  rw [hd] at h
  cases hq : (List.range i).all p with
  | true => rw [hq] at h; cases h
  | false => rfl
theorem dim_2 {d : Bool} {f : Nat → Int} {i : Nat} (h : d = !(List.range i).all (fun j => decide (fl ≤ f j))) (hd : d = false) : decide (f i < fl) = !(List.range (i + 1)).all (fun j => decide (fl ≤ f j)) := by
  rw [List.range_succ, List.all_append]
  rw [hd] at h
  cases hq : (List.range i).all (fun j => decide (fl ≤ f j)) with
  | false => rw [hq] at h; cases h
  | true =>
    show _ = !(true && (decide (fl ≤ f i) && true))
    by_cases h1 : f i < fl
    · rw [decide_eq_true h1, decide_eq_false (by omega)]; rfl
    · rw [decide_eq_false h1, decide_eq_true (by omega)]; rfl
theorem dim_stays (hm : mfault fl G = 0) (h1 : risB xs (G.length : Int) = true) : (!(List.range G.length).all (fun j => decide (fl ≤ ((brightM fl G xs).2.getD j rg0).lo))) = !staysB fl G xs := by
  congr 1
  rw [Bool.eq_iff_iff, stays_iff, List.all_eq_true]
  have key : ∀ k, k < G.length → ((brightM fl G xs).2.getD k rg0).lo = nowT xs (G.map (fun x => x.hi)) (k + 1) := fun k hk => by rw [bright_lo hm h1 hk, dimsT_at hk, pk_hi]
  constructor
  · intro h k hk
    have := of_decide_eq_true (h k (List.mem_range.2 hk))
    rwa [key k hk] at this
  · intro h k hk
    have hk2 := List.mem_range.1 hk
    exact decide_eq_true (by rw [key k hk2]; exact h k hk2)
theorem dim_no {d : Bool} (hm : mfault fl G = 0) (h1 : risB xs (G.length : Int) = true) (h : d = !(List.range G.length).all (fun j => decide (fl ≤ ((brightM fl G xs).2.getD j rg0).lo))) (hd : d = false) : staysB fl G xs = true := by
  rw [dim_stays hm h1, hd] at h
  cases hq : staysB fl G xs with
  | true => rfl
  | false => rw [hq] at h; cases h
theorem less_ok {n : Int} (hm : mfault fl G = 0) (hn : 0 ≤ n) : mfault (max 0 (fl - n)) G = 0 := by
  obtain ⟨⟨hf1, hf2⟩, ⟨hg0, hg8⟩, hrg⟩ := mf_ok hm
  unfold mfault
  rw [if_neg (by omega), if_pos ⟨by omega, hg0, List.all_eq_true.2 hrg⟩]
theorem less_pol {n : Int} (hm : mfault fl G = 0) (hn : 0 ≤ n) (h : (polishM fl G).1 = 0) : (polishM (max 0 (fl - n)) G).1 = 0 ∧ (polishM (max 0 (fl - n)) G).2.length ≤ (polishM fl G).2.length := by
  obtain ⟨⟨hf1, hf2⟩, ⟨hg0, hg8⟩, hrg⟩ := mf_ok hm
  have hm2 := less_ok (n := n) hm hn
  obtain ⟨h1, h2, _⟩ := pol_yes' hm h
  have h3 : staysB (max 0 (fl - n)) G (polishM fl G).2 = true := stays_mono hrg (by omega) (fun i hi => hi) h2
  have h4 : (polishM (max 0 (fl - n)) G).1 = 0 := by
    rcases polish_spec hm2 with ⟨_, h5⟩ | ⟨l, h5, _⟩
    · rw [h5 _ h1] at h3; cases h3
    · rw [h5]
  refine ⟨h4, ?_⟩
  have h6 := (pol_yes' hm2 h4).2.2 _ h1 h3
  rw [ltL_dec, Bool.or_eq_false_iff, decide_eq_false_iff_not] at h6
  omega
theorem tru_bnd {T : List Int} (hrg : ∀ x ∈ G, okRG x = true) (h : Tru G G.length T) : ∀ y ∈ T, 0 ≤ y ∧ y ≤ 100 := fun y hy => by
  obtain ⟨i, hi, rfl⟩ := List.mem_iff_getElem.1 hy
  have h1 := h.2 i (by rw [← h.1]; exact hi)
  obtain ⟨h2, h3, h4⟩ := rg_ok hrg (show i < G.length by rw [← h.1]; exact hi)
  have h5 : T.getD i 0 = T[i] := by rw [List.getD_eq_getElem?_getD, List.getElem?_eq_getElem hi]; rfl
  rw [h5] at h1
  omega
theorem tru_bright {T : List Int} (hrg : ∀ x ∈ G, okRG x = true) (h : Tru G G.length T) (hs : staysB fl G xs = true) {k : Nat} (hk : k < G.length) : fl ≤ (dimsT xs T G.length).getD k 0 := by
  rw [dimsT_at hk]
  refine Int.le_trans (stays_iff.1 hs k hk) (nowT_mono (fun i hi => hi) (fun j => ?_) (k + 1) (fun j hj => ?_))
  · by_cases hj : j < T.length
    · exact (tru_bnd hrg h _ (getD_lt hj)).1
    · rw [List.getD_eq_getElem?_getD, List.getElem?_eq_none (by omega)]; exact Int.le_refl _
  · rw [rg_map (show j < G.length by omega)]
    exact (h.2 j (by omega)).2
end



end Go.Proofs.Ytgdanglidienmaa
