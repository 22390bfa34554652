/- Contracts. -/
import Derived.Test.YtbikicakdkbcgabGreatR7
import Derived.Test.YtbikicakdkbcgabGreatF8
set_option linter.unusedVariables false
set_option linter.unusedSimpArgs false
namespace Go.Proofs.YtbikicakdkbcgabGreat
open Go Go.RowKit Go.Gv Go.Fl

theorem own_gm {w w' : World} {base e size n m : Nat} {v : Value} {xs : List Value} {es : List MapEntry} {clock : Nat} (h : w.ownsRow base e size v n xs) (hM : MapAt w m es clock) (hg : w.grownBy w' (some m)) : w'.ownsRow base e size v n xs :=
  own_keepB h (fun g hgv => hg.block g (h.lt g hgv).2 (fun he => by
    have hM2 : w.heap[g]? = some (.map es.toArray clock) := by
      have h3 : g = m := by injection he
      rw [h3]; exact hM
    rcases h.2 with ⟨h1, _⟩ | ⟨g2, cap, cur, h1, _, h2, _⟩
    · rw [h1] at hgv; cases hgv
    · rw [h1] at hgv
      cases hgv
      rw [hM2] at h2
      cases h2))
theorem stood0_b : ∀ v ∈ stood0, -1 ≤ v ∧ v ≤ 1000 := by decide
theorem lists_mem {xs l : List Int} (h : l ∈ listsL xs) : l.length ≤ xs.length ∧ ∀ i ∈ l, i ∈ xs := by
  have h1 := (sortL_perm _).mem_iff.1 h
  obtain ⟨n, _, rfl⟩ := List.mem_map.1 h1
  refine ⟨sub_len, fun i hi => ?_⟩
  unfold subK at hi
  obtain ⟨j, hj, rfl⟩ := List.mem_map.1 hi
  have := List.mem_range.1 (List.mem_filter.1 hj).1
  exact getD_lt this
theorem lists_len {xs : List Int} : (listsL xs).length = 2 ^ xs.length := by
  unfold listsL
  rw [(sortL_perm _).length_eq, List.length_map, List.length_range]
theorem lists_sm {S : List SV} {xs : List Int} (h : S.map (·.xs) = listsL xs) (h4 : xs.length ≤ 4) : S.length ≤ 2097152 := by
  have h1 := congrArg List.length h
  rw [List.length_map, lists_len] at h1
  rw [h1]
  exact Nat.le_trans (Nat.pow_le_pow_right (by decide) h4) (by decide)
theorem lists_on {S : List SV} {xs : List Int} {n : Nat} (h : S.map (·.xs) = listsL xs) (h4 : xs.length ≤ 4) (hx : ∀ i ∈ xs, 0 ≤ i ∧ i ≤ (n : Int) - 1) : ∀ s ∈ S, s.xs.length ≤ 8 ∧ ∀ i ∈ s.xs, 0 ≤ i ∧ i ≤ (n : Int) - 1 := fun s hs => by
  have h1 : s.xs ∈ listsL xs := by rw [← h]; exact List.mem_map.2 ⟨s, hs, rfl⟩
  have h2 := lists_mem h1
  exact ⟨by omega, fun i hi => hx i (h2.2 i hi)⟩
section
variable {nd : List Int} {pl : List PV} {L R : List SV} {n : Int} {k : Nat}
end
theorem upTo_on {n : Nat} : ∀ i ∈ upTo n, 0 ≤ i ∧ i ≤ (n : Int) - 1 := fun i hi => by
  unfold upTo at hi
  obtain ⟨j, hj, rfl⟩ := List.mem_map.1 hi
  have := List.mem_range.1 hj
  omega
/-- is there a safe rota with these people alone? -/
def canP (nd : List Int) (pl : List PV) (C : List (List Int)) (xs : List Int) : Bool := decide (rfe nd pl C (listsL xs) 0 stood0 < 1024)
def enoughR (nd : List Int) (pl : List PV) (L : List SV) : Int × List Int :=
  if faultP (po nd pl L) = 0 then (match (listsL (upTo pl.length)).find? (canP nd pl (L.map (·.xs))) with | some l => (0, l) | none => (10, []))
  else (faultP (po nd pl L), [])
section
variable {nd : List Int} {pl : List PV} {L S : List SV} {k : Nat}
theorem find_at {p : List Int → Bool} : ∀ {S : List SV} {k : Nat}, k < S.length → p (S.getD k sv0).xs = true → (∀ j, j < k → p (S.getD j sv0).xs = false) → (S.map (·.xs)).find? p = some (S.getD k sv0).xs
  | s :: S, 0, _, h, _ => by
    have h2 : p s.xs = true := h
    rw [List.map_cons, List.find?_cons_of_pos h2]; rfl
  | s :: S, k + 1, hk, h, hno => by
    rw [List.map_cons, List.find?_cons_of_neg (by have := hno 0 (by omega); rw [show ((s :: S).getD 0 sv0).xs = s.xs from rfl] at this; rw [this]; decide)]
    exact find_at (by simpa using hk) h (fun j hj => hno (j + 1) (by omega))
end


theorem rfew_ret {na : Option Addr} {nc : Nat} {nd : List Int} {pa : Option Addr} {pc : Nat} {pl : List PV} {ca : Option Addr} {cc : Nat} {L : List SV} {wb : Nat} {oa : Option Addr} {oc : Nat} {S : List SV} {m : Nat} (hok : faultP (po nd pl L) = 0) (hSn : S.length ≤ 2097152) (hSon : ∀ s ∈ S, s.xs.length ≤ 8 ∧ ∀ i ∈ s.xs, 0 ≤ i ∧ i ≤ (pl.length : Int) - 1) :
    ∀ (n wt : Nat) (S0 : List Int) (w : World) (clock : Nat) (es : List MapEntry), nd.length - wt ≤ n → wt ≤ nd.length → S0.length = 8 → (∀ v ∈ S0, -1 ≤ v ∧ v ≤ 1000) → WkH w na nc nd pa pc pl ca cc L wb oa oc S m → MapAt w m es clock → SMemo nd pl (L.map (·.xs)) (S.map (·.xs)) es →
      Ret Tryz.prog 42 [ptr wb 0, .agg ⟨((wt : Int) :: S0).map vint⟩] w (FewW nd pl (L.map (·.xs)) (S.map (·.xs)) m wt S0 w) := by
  intro n
  induction n with
  | zero =>
    intro wt S0 w ck es hn hwt hS8 hSb hk hM hMm
    exact rfew_step _ _ _ _ _ _ _ _ _ _ _ _ _ _ _ _ wt S0 w hok hSn hSon hwt hS8 hSb hk hM hMm (fun wt2 S2 w1 es1 ck1 hlt => by omega)
  | succ n ih =>
    intro wt S0 w ck es hn hwt hS8 hSb hk hM hMm
    exact rfew_step _ _ _ _ _ _ _ _ _ _ _ _ _ _ _ _ wt S0 w hok hSn hSon hwt hS8 hSb hk hM hMm (fun wt2 S2 w1 es1 ck1 hlt h1 h2 h3 h4 h5 h6 => ih wt2 S2 w1 ck1 es1 (by omega) h1 h2 h3 h4 h5 h6)
end Go.Proofs.YtbikicakdkbcgabGreat
