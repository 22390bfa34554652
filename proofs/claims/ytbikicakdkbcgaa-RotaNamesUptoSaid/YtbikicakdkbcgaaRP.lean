/- Contracts. -/
import Derived.Test.YtbikicakdkbcgaaR10
import Derived.Test.YtbikicakdkbcgaaR15
set_option linter.unusedVariables false
set_option linter.unusedSimpArgs false
namespace Go.Proofs.Ytbikicakdkbcgaa
open Go Go.RowKit Go.Gv Go.Fl

/- ---- lists by bits ---- -/
/- ---- what has been stood ---- -/
theorem getD_set {l : List Int} {i j : Nat} {v : Int} : (l.set i v).getD j 0 = if i = j ∧ j < l.length then v else l.getD j 0 := by
  rw [List.getD_eq_getElem?_getD, List.getElem?_set]
  by_cases h : i = j
  · subst h
    by_cases h2 : i < l.length
    · simp [h2]
    · simp [h2, List.getElem?_eq_none (Nat.le_of_not_lt h2)]
  · simp [h]
/- ---- the rules, person by person ---- -/
/- ---- one watch after the other ---- -/
def okS (nd : List Int) (pl : List PV) (C : List (List Int)) (wt : Nat) (S on : List Int) : Bool := (aftL pl wt S on).2 && holdsP C (nd.getD wt 0) wt on
def chn (nd : List Int) (pl : List PV) (C : List (List Int)) : Nat → List Int → List (List Int) → Bool
  | _, _, [] => true
  | wt, S, on :: R => okS nd pl C wt S on && chn nd pl C (wt + 1) (aftL pl wt S on).1 R
def dut (R : List (List Int)) : Int := (R.flatten.length : Int)
theorem chn_eq {nd : List Int} {pl : List PV} {C : List (List Int)} : ∀ {R : List (List Int)} {wt : Nat} {S : List Int}, chn nd pl C wt S R = (rulL pl wt S R && (List.range R.length).all (fun k => holdsP C (nd.getD (wt + k) 0) (wt + k) (R.getD k [])))
  | [], wt, S => rfl
  | on :: R, wt, S => by
    have h1 : (List.range (on :: R).length).all (fun k => holdsP C (nd.getD (wt + k) 0) (wt + k) ((on :: R).getD k [])) = (holdsP C (nd.getD wt 0) wt on && (List.range R.length).all (fun k => holdsP C (nd.getD (wt + 1 + k) 0) (wt + 1 + k) (R.getD k []))) := by
      rw [List.length_cons, List.range_succ_eq_map, List.all_cons, List.all_map]
      congr 1
      congr 1
      funext k
      show holdsP C (nd.getD (wt + (k + 1)) 0) (wt + (k + 1)) ((on :: R).getD (k + 1) []) = _
      rw [show wt + (k + 1) = wt + 1 + k by omega]
      rfl
    rw [chn, rulL, h1, chn_eq (R := R)]
    unfold okS
    cases (aftL pl wt S on).2 <;> cases holdsP C (nd.getD wt 0) wt on <;> simp
section
variable {nd : List Int} {pl : List PV} {C LS : List (List Int)} {wt : Nat} {S : List Int}
end
section
variable {nd : List Int} {pl : List PV} {L : List SV}
end

/- ---- what counts of a post ---- -/
section
variable {pl pl' : List PV}
theorem pv_at (h : pl'.map PV.pn = pl.map PV.pn) (i : Nat) : (pl'.getD i pv0).pn = (pl.getD i pv0).pn := by
  have h1 : ∀ l : List PV, (l.getD i pv0).pn = (l.map PV.pn).getD i pv0.pn := fun l => by
    rw [List.getD_eq_getElem?_getD, List.getD_eq_getElem?_getD, List.getElem?_map]; cases l[i]? <;> rfl
  rw [h1, h1, h]
theorem pn_len (h : pl'.map PV.pn = pl.map PV.pn) : pl'.length = pl.length := by simpa using congrArg List.length h
theorem bad_pn {x y : PV} (h : x.pn = y.pn) : badD x = badD y := by
  obtain ⟨a, c, ab, r, m⟩ := x
  obtain ⟨a2, c2, ab2, r2, m2⟩ := y
  unfold PV.pn at h
  injection h with h1 h2 h3
  subst h1; subst h2; subst h3; rfl
theorem aftL_pn (h : pl'.map PV.pn = pl.map PV.pn) : aftL pl' = aftL pl := by
  funext wt S on
  induction on generalizing S with
  | nil => rfl
  | cons i l ih => rw [aftL, aftL, bad_pn (pv_at h _), ih]
theorem rulL_pn (h : pl'.map PV.pn = pl.map PV.pn) : rulL pl' = rulL pl := by
  funext wt S R
  induction R generalizing wt S with
  | nil => rfl
  | cons on R ih => rw [rulL, rulL, aftL_pn h, ih]
theorem nx_pn {nd : List Int} {C : List (List Int)} (h : pl'.map PV.pn = pl.map PV.pn) : nxOK nd pl' C = nxOK nd pl C := by
  funext wt S on
  unfold nxOK
  rw [aftL_pn h]
theorem rfeN_pn {nd : List Int} {C LS : List (List Int)} (h : pl'.map PV.pn = pl.map PV.pn) : ∀ n, rfeN nd pl' C LS n = rfeN nd pl C LS n
  | 0 => rfl
  | n + 1 => by
    funext wt S
    rw [rfeN, rfeN, nx_pn h, aftL_pn h, rfeN_pn h n]
theorem rfe_pn {nd : List Int} {C LS : List (List Int)} (h : pl'.map PV.pn = pl.map PV.pn) : rfe nd pl' C LS = rfe nd pl C LS := by
  funext wt S
  unfold rfe
  rw [rfeN_pn h]
theorem exB_pn {nd : List Int} {C LS : List (List Int)} (h : pl'.map PV.pn = pl.map PV.pn) : exB nd pl' C LS = exB nd pl C LS := by
  funext wt S on
  unfold exB
  rw [nx_pn h, rfe_pn h, aftL_pn h]
theorem rextN_pn {nd : List Int} {C LS : List (List Int)} (h : pl'.map PV.pn = pl.map PV.pn) : ∀ n, rextN nd pl' C LS n = rextN nd pl C LS n
  | 0 => rfl
  | n + 1 => by
    funext wt S
    rw [rextN, rextN, exB_pn h, aftL_pn h, rextN_pn h n]
theorem rext_pn {nd : List Int} {C LS : List (List Int)} (h : pl'.map PV.pn = pl.map PV.pn) : rext nd pl' C LS = rext nd pl C LS := by
  funext wt S
  unfold rext
  rw [rextN_pn h]
theorem po_pn {nd : List Int} {L L' : List SV} (h : pl'.map PV.pn = pl.map PV.pn) (hL : L'.map (·.xs) = L.map (·.xs)) : po nd pl' L' = po nd pl L := by unfold po; rw [h, hL]
theorem best_pn {nd : List Int} {L L' : List SV} (h : pl'.map PV.pn = pl.map PV.pn) (hL : L'.map (·.xs) = L.map (·.xs)) : bestR nd pl' L' = bestR nd pl L := by
  unfold bestR
  rw [po_pn h hL, hL, rfe_pn h, rext_pn h, pn_len h]
theorem can_pn {nd : List Int} {C : List (List Int)} (h : pl'.map PV.pn = pl.map PV.pn) : canP nd pl' C = canP nd pl C := by
  funext xs
  unfold canP
  rw [rfe_pn h]
theorem enough_pn {nd : List Int} {L L' : List SV} (h : pl'.map PV.pn = pl.map PV.pn) (hL : L'.map (·.xs) = L.map (·.xs)) : enoughR nd pl' L' = enoughR nd pl L := by
  unfold enoughR
  rw [po_pn h hL, hL, can_pn h, pn_len h]
theorem rules_pn {nd : List Int} {L L' : List SV} (h : pl'.map PV.pn = pl.map PV.pn) (hL : L'.map (·.xs) = L.map (·.xs)) : rulesR nd pl' L' = rulesR nd pl L := by
  funext T
  unfold rulesR
  rw [po_pn h hL, rulL_pn h]
end
theorem xs_at {R : List SV} {k : Nat} : (R.map (·.xs)).getD k [] = (R.getD k sv0).xs := by
  rw [List.getD_eq_getElem?_getD, List.getD_eq_getElem?_getD, List.getElem?_map]; cases R[k]? <;> rfl
/-- whether a rota is safe, with few enough duties -/
def proveX (nd : List Int) (pl : List PV) (C : List (List Int)) (f : Int) (T : List (List Int)) (n : Int) : Bool := decide (f = 0) && (chn nd pl C 0 stood0 T && decide (dut T ≤ n))
theorem chn_pn {nd : List Int} {pl pl' : List PV} {C : List (List Int)} (h : pl'.map PV.pn = pl.map PV.pn) : chn nd pl' C = chn nd pl C := by
  funext wt S R
  induction R generalizing wt S with
  | nil => rfl
  | cons on R ih => rw [chn, chn, ih]; unfold okS; rw [aftL_pn h]
theorem proveX_pn {nd : List Int} {pl pl' : List PV} {C : List (List Int)} (h : pl'.map PV.pn = pl.map PV.pn) : proveX nd pl' C = proveX nd pl C := by
  funext f T n
  unfold proveX
  rw [chn_pn h]
theorem prove_eq {nd : List Int} {pl : List PV} {L R : List SV} {n : Int} : proveR nd pl L R n = proveX nd pl (L.map (·.xs)) (planP (po nd pl L) (R.map (·.xs))) (R.map (·.xs)) n := by
  unfold proveR proveX dut catL
  rw [chn_eq, List.length_map]
  have h1 : (fun k => holdsP (L.map (·.xs)) (nd.getD (0 + k) 0) (0 + k) ((R.map (·.xs)).getD k [])) = fun k => holdsP (L.map (·.xs)) (nd.getD k 0) k (R.getD k sv0).xs := by
    funext k
    rw [Nat.zero_add, xs_at]
  rw [h1]
  cases rulL pl 0 stood0 (R.map (·.xs)) <;> simp [Bool.and_comm]
/-- where a rota fails in a case -/
def failX (nd : List Int) (T C : List (List Int)) (c : Nat) : Int := idxI (fun k => decide (awkN (decide (C.length ≤ c)) (C.getD c []) (k : Int) (T.getD k []) < nd.getD k 0)) T.length
theorem failC_eq {w : World} {nd : List Int} {L R : List SV} {c : Nat} (hr : RowsI w L) (hn : ∀ s ∈ L, 0 < s.xs.length) : failC nd R (L.getD c sv0) = failX nd (R.map (·.xs)) (L.map (·.xs)) c := by
  unfold failC failX
  have h1 : (L.getD c sv0).a.isNone = decide ((L.map (·.xs)).length ≤ c) := by
    rw [List.length_map]
    by_cases hc : c < L.length
    · rw [decide_eq_false (by omega)]
      exact row_some (hr _ (getD_lt hc)) (hn _ (getD_lt hc))
    · rw [decide_eq_true (by omega), List.getD_eq_getElem?_getD, List.getElem?_eq_none (by omega)]; rfl
  rw [h1]
  simp only [xs_at, List.length_map]
def failsX (nd : List Int) (f : Int) (T C : List (List Int)) : Int × List Int := if f = 0 then (0, (List.range (C.length + 1)).map (failX nd T C)) else (f, [])
theorem fails_eq {w : World} {nd : List Int} {pl : List PV} {L R : List SV} (hr : RowsI w L) : failsR nd pl L R = failsX nd (planP (po nd pl L) (R.map (·.xs))) (R.map (·.xs)) (L.map (·.xs)) := by
  unfold failsR failsX
  by_cases h : planP (po nd pl L) (R.map (·.xs)) = 0
  · rw [if_pos h, if_pos h]
    obtain ⟨hok, _, _⟩ := plan_ok h
    obtain ⟨_, ⟨hp1, _⟩, _, _, _, hLL⟩ := po_ok hok
    congr 1
    unfold failV
    rw [Nat.sub_self, List.replicate_zero, List.append_nil, List.length_map]
    refine List.map_congr_left fun c _ => failC_eq hr (fun s hs => by have := (hLL s hs).1; omega)
  · rw [if_neg h, if_neg h]
end Go.Proofs.Ytbikicakdkbcgaa
