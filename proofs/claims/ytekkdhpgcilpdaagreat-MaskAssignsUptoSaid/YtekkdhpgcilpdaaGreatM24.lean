/- Contracts. -/
import Derived.Test.YtekkdhpgcilpdaaGreatM23
set_option linter.unusedVariables false
set_option linter.unusedSimpArgs false
namespace Go.Proofs.YtekkdhpgcilpdaaGreat
open Go Go.RowKit Go.Gv Go.Fl
/-! ### The reference: assignments -/
section
variable {can : Nat → Int → Bool} {m : Nat} {out : Nat → Bool}
def nxF (can : Nat → Int → Bool) (m : Nat) (out : Nat → Bool) (p : List Int) : List (List Int) := if out p.length = true then [p ++ [-2]] else ((bys m).filter (stepB can p)).map (fun b => p ++ [b])
theorem all_step {r : Nat} : allF can m out (r + 1) [] = (allF can m out r []).flatMap (nxF can m out) := by
  rw [← iter_all, ← iter_all, iterA_snoc]; rfl
theorem nx_len {p : List Int} : (nxF can m out p).length ≤ m + 1 := by
  unfold nxF
  split
  · simp
  · rw [List.length_map]
    have := List.length_filter_le (stepB can p) (bys m)
    rwa [bys_len] at this
theorem flat_card {f : List Int → List (List Int)} {B : Nat} (h : ∀ p, (f p).length ≤ B) : ∀ l : List (List Int), (l.flatMap f).length ≤ B * l.length
  | [] => by simp
  | p :: l => by
    rw [List.flatMap_cons, List.length_append, List.length_cons, Nat.mul_succ]
    have h1 := h p
    have h2 := flat_card h l
    omega
theorem all_card : ∀ r : Nat, (allF can m out r []).length ≤ (m + 1) ^ r
  | 0 => by rw [allF]; simp
  | r + 1 => by
    rw [all_step, Nat.pow_succ, Nat.mul_comm]
    exact Nat.le_trans (flat_card (fun p => nx_len) _) (Nat.mul_le_mul_left _ (all_card r))
theorem card_small {r : Nat} (hm : m ≤ 5) (hr : r ≤ 4) : (allF can m out r []).length ≤ 1296 :=
  Nat.le_trans (all_card r) (Nat.le_trans (Nat.pow_le_pow_left (show m + 1 ≤ 6 by omega) r) (Nat.pow_le_pow_right (n := 6) (by decide) hr))
end
def nxK (l : Lg) (k : Nat) (p : List Int) (c : Nat) : List (List Int) := (((cansR l (l.R.getD k rcd0)).take c).filter (freeP p)).map (fun b => p ++ [b])
section
variable {l : Lg} {k c : Nat} {p : List Int} {out : Nat → Bool} {b : Int} {r : RC}
theorem nx_out {can : Nat → Int → Bool} {m : Nat} (h : out p.length = true) : nxF can m out p = [p ++ [-2]] := by unfold nxF; rw [if_pos h]
theorem nx_all {m : Nat} (h : out p.length = false) (hp : p.length = k) (hc : c = (cansR l (l.R.getD k rcd0)).length) (hm : l.J.length = m) : nxK l k p c = nxF (canB l) m out p := by
  subst hm
  unfold nxF nxK
  rw [if_neg (by rw [h]; decide), step_filter, hp, cans_eq, hc, List.take_length]
theorem nxK_0 : nxK l k p 0 = [] := by unfold nxK; rw [List.take_zero]; rfl
theorem nxK_y {x : Int} (hc : c < (cansR l (l.R.getD k rcd0)).length) (hx : x = (cansR l (l.R.getD k rcd0)).getD c 0) (hb : freeP p x = true) : nxK l k p (c + 1) = nxK l k p c ++ [p ++ [x]] := by
  unfold nxK
  rw [take_succ_getD hc, ← hx, List.filter_append, List.map_append, List.filter_cons, if_pos hb]; rfl
theorem nxK_n {x : Int} (hc : c < (cansR l (l.R.getD k rcd0)).length) (hx : x = (cansR l (l.R.getD k rcd0)).getD c 0) (hb : freeP p x = false) : nxK l k p (c + 1) = nxK l k p c := by
  unfold nxK
  rw [take_succ_getD hc, ← hx, List.filter_append, List.map_append, List.filter_cons, if_neg (by rw [hb]; decide)]; simp
theorem cans_rng (h : b ∈ cansR l r) : -1 ≤ b := by
  unfold cansR at h
  rcases List.mem_append.1 h with h | h
  · split at h
    · have := List.mem_singleton.1 h; omega
    · cases h
  · unfold ownL at h
    obtain ⟨i, _, rfl⟩ := List.mem_map.1 h
    omega
theorem free_1 (hb : -1 ≤ b) (h : b < 0) : freeP p b = true := by rw [free_eq hb, decide_eq_true h]; rfl
theorem free_2 (hb : -1 ≤ b) (h : ¬ b < 0) : freeP p b = !hasI p b := by rw [free_eq hb, decide_eq_false h]; rfl
theorem cans_len (h0 : faultM l = 0) : (cansR l r).length ≤ 9 := by
  unfold cansR
  rw [List.length_append]
  have h1 := own_le (l := l) (r := r)
  have h2 := (lg_ok h0).2.1
  split <;> simp <;> omega
theorem nxK_len (h0 : faultM l = 0) : (nxK l k p c).length ≤ 9 := by
  unfold nxK
  rw [List.length_map]
  have h1 := List.length_filter_le (freeP p) ((cansR l (l.R.getD k rcd0)).take c)
  have h2 := cans_len (r := l.R.getD k rcd0) h0
  rw [List.length_take] at h1
  omega
end
section
variable {co : List Sg} {er : Int} {se : List Int} {sl : List SN} {rl : List RC} {l : Lg} {xs : List Int} {k n ot i r : Nat} {A M D : List SV} {out : Nat → Bool}
/-- whether a list is an assignment -/
def asgB (l : Lg) (xs : List Int) : Bool := decide (xs ∈ asgM l noB)
theorem prov_asg (h : faultM l = 0) : provM l xs = asgB l xs := by
  unfold provM asgB asgM
  rw [decide_eq_decide]
  exact ⟨fun h2 => h2.2, fun h2 => ⟨h, h2⟩⟩
theorem asg_iff (hl : xs.length = rl.length) : asgB (lg co er se sl rl) xs = true ↔ ∀ r, r < xs.length → okAt (canB (lg co er se sl rl)) sl.length noB xs r := by
  unfold asgB asgM
  rw [decide_eq_true_eq, mem_all, lgJ, lgR]
  constructor
  · rintro ⟨_, _, h4⟩; exact fun r hr => h4 r (Nat.zero_le _) hr
  · exact fun h4 => ⟨by simp, by simpa using hl, fun r _ hr => h4 r hr⟩
theorem asgB_len (h : ¬ xs.length = rl.length) : asgB (lg co er se sl rl) xs = false := decide_eq_false (fun h2 => h (asg_len h2))
theorem asgB_no (hl : xs.length = rl.length) (hk : k < xs.length) (h : ¬ okAt (canB (lg co er se sl rl)) sl.length noB xs k) : asgB (lg co er se sl rl) xs = false := by
  rw [Bool.eq_false_iff]
  exact fun h1 => h ((asg_iff hl).1 h1 k hk)
theorem asgB_yes (hl : xs.length = rl.length) (h : ∀ r, r < xs.length → okAt (canB (lg co er se sl rl)) sl.length noB xs r) : asgB (lg co er se sl rl) xs = true := (asg_iff hl).2 h
theorem ok_rng (h : ¬ (-1 ≤ xs.getD k 0 ∧ xs.getD k 0 ≤ (sl.length : Int) - 1)) : ¬ okAt (canB (lg co er se sl rl)) sl.length noB xs k := by
  rw [okAt_noB, mem_bys]
  exact fun h2 => h h2.1
theorem ok_fal (hr : -1 ≤ xs.getD k 0 ∧ xs.getD k 0 ≤ (sl.length : Int) - 1) (hx : xs.getD k 0 < 0) (hk : k < xs.length) : okAt (canB (lg co er se sl rl)) sl.length noB xs k ↔ (maskO (lg co er se sl rl) (rl.getD k rcd0)).isSome = true := by
  have he : xs.getD k 0 = -1 := by omega
  rw [okAt_noB, mem_bys, he, mask_some]
  unfold stepB freeP canB
  rw [List.length_take, Nat.min_eq_left (by omega), if_pos rfl, decide_eq_true rfl]
  simp only [Bool.true_or, Bool.and_true]
  constructor
  · exact fun h => h.2
  · exact fun h => ⟨by omega, h⟩
theorem ok_own (hr : -1 ≤ xs.getD k 0 ∧ xs.getD k 0 ≤ (sl.length : Int) - 1) (hx : ¬ xs.getD k 0 < 0) (hk : k < xs.length) : okAt (canB (lg co er se sl rl)) sl.length noB xs k ↔ ownB (lg co er se sl rl) (rl.getD k rcd0) (sl.getD (xs.getD k 0).toNat sn00).pn = true ∧ ∀ q, q < k → ¬ xs.getD q 0 = xs.getD k 0 := by
  rw [okAt_noB, mem_bys]
  unfold stepB
  rw [Bool.and_eq_true, free_iff (by omega), List.length_take, Nat.min_eq_left (by omega)]
  unfold canB
  rw [if_neg (by omega), lgJ_at (by omega)]
  have e : ∀ q, q < k → (xs.take k).getD q 0 = xs.getD q 0 := fun q hq => by rw [List.getD_eq_getElem?_getD, List.getElem?_take, if_pos hq, ← List.getD_eq_getElem?_getD]
  constructor
  · rintro ⟨_, h1, h2⟩
    exact ⟨h1, fun q hq he => by have := h2 q hq (by rw [e q hq]; exact he); omega⟩
  · rintro ⟨h1, h2⟩
    exact ⟨hr, h1, fun q hq he => absurd (by rw [← e q hq]; exact he) (h2 q hq)⟩
theorem cans_snoc (hk : k < rl.length) (hM : M.map (·.xs) = (rl.take k).map (cansR l)) {s : SV} (hs : s.xs = cansR l (rl.getD k rcd0)) : (M ++ [s]).map (·.xs) = (rl.take (k + 1)).map (cansR l) := by
  rw [List.map_append, hM, take_sg (d := rcd0) hk, List.map_append, List.map_cons, hs]; rfl
theorem cans_y {r : RC} (h : (maskO l r).isSome = true) : [(-1 : Int)] ++ ownL l r = cansR l r := by unfold cansR; rw [if_pos h]
theorem cans_n {r : RC} (h : ¬ (maskO l r).isSome = true) : ownL l r = cansR l r := by unfold cansR; rw [if_neg h, List.nil_append]
theorem svA_len (hA : A.map (·.xs) = allF (canB l) n out r []) (hi : i < A.length) : (A.getD i sv0).xs.length = r := by
  have h : (A.getD i sv0).xs ∈ allF (canB l) n out r [] := by rw [← hA]; exact List.mem_map.2 ⟨_, getD_lt hi, rfl⟩
  have := all_len h
  simpa using this
theorem svA_card (hA : A.map (·.xs) = allF (canB l) n out r []) (hn : n ≤ 5) (hr : r ≤ 4) : A.length ≤ 1296 := by
  have h := congrArg List.length hA
  rw [List.length_map] at h
  rw [h]; exact card_small hn hr
theorem nx_take (hi : i < A.length) {f : List Int → List (List Int)} : ((A.map (·.xs)).take (i + 1)).flatMap f = ((A.map (·.xs)).take i).flatMap f ++ f (A.getD i sv0).xs := by
  rw [take_sg (d := []) (by rw [List.length_map]; exact hi), List.flatMap_append, svx_getD]; simp
theorem take_card {f : List Int → List (List Int)} {B : Nat} (h : ∀ p, (f p).length ≤ B) : (((A.map (·.xs)).take i).flatMap f).length ≤ B * i := by
  refine Nat.le_trans (flat_card h _) (Nat.mul_le_mul_left _ ?_)
  rw [List.length_take]; omega
theorem M_len {L : List (List Int)} (hM : M.map (·.xs) = L) {B : Nat} (h : L.length ≤ B) : M.length ≤ B := by
  rw [← hM, List.length_map] at h; exact h
theorem app_card {a b : List (List Int)} {x y : Nat} (h1 : a.length ≤ x) (h2 : b.length ≤ y) : (a ++ b).length ≤ x + y := by rw [List.length_append]; omega
theorem fals_take (hk : k < xs.length) (h : xs.getD k 0 = -1) : fals (xs.take (k + 1)) = fals (xs.take k) + 1 := by rw [take_succ_getD hk, fals_snoc, h]; rfl
theorem fals_keep (hk : k < xs.length) (h : ¬ xs.getD k 0 = -1) : fals (xs.take (k + 1)) = fals (xs.take k) := by rw [take_succ_getD hk, fals_snoc]; unfold costB; rw [if_neg h]; omega
theorem bestI_y {L : List (List Int)} (h : i = 0 ∨ fals (L.getD i []) < fals (bestI L i)) : bestI L (i + 1) = L.getD i [] := by rw [bestI, if_pos h]
theorem bestI_n {L : List (List Int)} (h : ¬ (i = 0 ∨ fals (L.getD i []) < fals (bestI L i))) : bestI L (i + 1) = bestI L i := by rw [bestI, if_neg h]
theorem best_is (h0 : faultM l = 0) (h : asgM l noB ≠ []) : bestI (asgM l noB) (asgM l noB).length = bestM l := by
  have := (lg_ok h0).2.2.1
  unfold asgM bestM at *
  exact best_ext (by omega) h
theorem own_any (hr : r < l.R.length) : ownV l r = (asgM l noB).any (fun a => decide (0 ≤ a.getD r 0)) := by
  unfold ownV
  rw [poss_any hr, Bool.eq_iff_iff, List.any_eq_true, List.any_eq_true]
  constructor
  · rintro ⟨a, ha, h⟩
    have := (asg_at ha hr).1
    refine ⟨a, ha, decide_eq_true ?_⟩
    rw [beq_iff_eq, decide_eq_false_iff_not] at h
    omega
  · rintro ⟨a, ha, h⟩
    refine ⟨a, ha, ?_⟩
    rw [decide_eq_true_eq] at h
    rw [beq_iff_eq, decide_eq_false_iff_not]
    omega
theorem fal_any (hr : r < l.R.length) : falV l r = (asgM l noB).any (fun a => decide (a.getD r 0 < 0)) := by
  unfold falV
  rw [poss_any hr, Bool.eq_iff_iff, List.any_eq_true, List.any_eq_true]
  constructor
  · rintro ⟨a, ha, h⟩
    refine ⟨a, ha, decide_eq_true ?_⟩
    rw [beq_iff_eq, decide_eq_true_eq] at h
    omega
  · rintro ⟨a, ha, h⟩
    have := (asg_at ha hr).1
    refine ⟨a, ha, ?_⟩
    rw [decide_eq_true_eq] at h
    rw [beq_iff_eq, decide_eq_true_eq]
    omega
def anyK (L : List (List Int)) (q : Int → Bool) (r k : Nat) : Bool := (L.take k).any (fun a => q (a.getD r 0))
theorem any_snoc {L : List (List Int)} {q : Int → Bool} (hk : k < L.length) : anyK L q r (k + 1) = (anyK L q r k || q ((L.getD k []).getD r 0)) := by
  unfold anyK
  rw [take_sg (d := []) hk, List.any_append]; simp
theorem any_full {L : List (List Int)} {q : Int → Bool} (hk : k = L.length) : anyK L q r k = L.any (fun a => q (a.getD r 0)) := by unfold anyK; rw [hk, List.take_length]
theorem verd_none (h0 : faultM l = 0) (h : asgM l noB = []) : verdW l = ([], 11) := by
  by_cases hv : (verdW l).2 = 0
  · exact absurd h (vd_ok h0 hv).2.1
  · exact (vd_err h0 hv).1
theorem verd_some (h0 : faultM l = 0) (h : asgM l noB ≠ []) : verdW l = ((List.range l.R.length).map (verdV l), 0) := by
  by_cases hv : (verdW l).2 = 0
  · exact (vd_ok h0 hv).1
  · have h2 := (vd_err h0 hv).2
    rw [(asg_some h0 h).1] at h2
    have h3 : (0 : Int) = 11 := congrArg Prod.snd h2
    omega
theorem verd_or (h : asgM l noB ≠ []) (hr : r < l.R.length) : (ownV l r || falV l r) = true := by
  by_cases h1 : (ownV l r || falV l r) = true
  · exact h1
  · exact absurd ((poss_none hr).2 (by simpa using h1)) h
theorem len_pos {L : List (List Int)} (hD : D.map (·.xs) = L) : decide (0 < (D.length : Int)) = decide (L ≠ []) := by
  have h := congrArg List.length hD
  rw [List.length_map] at h
  rw [decide_eq_decide, ← List.length_pos_iff]
  omega
theorem owns_sv0 {w : World} {B el : Nat} : OwnsI w B el [sv0] := fun s hs => by
  rw [List.mem_singleton.1 hs]
  exact World.ownsRow_nil _ _ _ _
theorem shr_bit {n k : Nat} : ((n : Int) / 2 ^ k) % 2 = 1 ↔ bitB n k = true := by
  obtain ⟨q, hq, hqn⟩ := shr_q n k
  have hq : (n : Int) / 2 ^ k = q := by simpa using hq
  unfold bitB
  rw [hq, decide_eq_true_eq, hqn]
  omega
end


theorem falses6_ret (xa : Option Addr) (xc : Nat) (xs : List Int) (w : World) (hx : Row w xa xs.length xc 1 (xs.map vint)) (hxn : xs.length ≤ 2097152) : Ret Tryz.prog 51 [.slice xa xs.length xc] w (fun v w' => v = vint (fals xs) ∧ Ext w w') := by
 have hB := Below.refl w.heap.size w
 have hsz : w.heap.size ≤ w.heap.size := Nat.le_refl _
 refine ret_of_runs (args := [_]) Tryz.func51 rfl (Nat.le_of_ble_eq_true rfl) (by kernel_rfl) (r_seq (r_region' (l_q (qai rfl rfl) (l_nil (r_seq (r_region' (l_q (qai rfl rfl) (l_nil (r_seq (r_seq (r_region' (l_q (qai rfl rfl) (l_nil (r_block (r_rounds (α := Nat × Int) (fun ⟨k, n⟩ e wl => Knows e [(0, .slice xa xs.length xc), (3, vint n), (4, vint (k : Int))] ∧ (k ≤ xs.length) ∧ (n = fals (xs.take k)) ∧ (0 ≤ n ∧ n ≤ k) ∧ (w.heap.size ≤ wl.heap.size) ∧ (Below w.heap.size w wl)) (fun ⟨k, n⟩ => xs.length - k) (0, 0) ?_ ?_)))))))))))))))
 ·
  exact ⟨⟨rfl, rfl, rfl, trivial⟩, (Nat.zero_le _), rfl, (by omega), hsz, hB⟩
 ·
  rintro ⟨k, n⟩ el1 wl1 ⟨hkn, hk, hn, hnr, hsz, hB⟩ ih1
  obtain ⟨e1, rfl⟩ := knows_env hkn
  refine r_seq (r_seq (r_region' (l_q (qmi rfl rfl) (l_q (qms rfl rfl) (l_q (q_len rfl Tryz.underlying25 rfl rfl) (l_q (q_lss rfl rfl rfl) (l_nil (r_cond rfl (fun hc2 => ?_) (fun hc2 => ?_)))))))))
  ·
   replace hc2 := dt hc2
   have hkx : k < xs.length := by omega
   refine r_skip (r_seq (r_block (r_seq (r_region' (l_q (qms rfl rfl) (l_q (qmi rfl rfl) ?_))))))
   obtain ⟨b3, o3, ha3, hh3⟩ := (hx.below hB).at1 k ((xs).getD k 0) (getD_some (by omega))
   refine l_q (q_indexAddr1 Tryz.underlying25 Tryz.sizeOf3 rfl ha3 rfl (by omega) rfl) (l_q (q_load Tryz.isAgg3 rfl (hh3) rfl) (l_q (q_eql rfl rfl rfl) (l_nil (r_cond rfl (fun hc4 => ?_) (fun hc4 => ?_)))))
   ·
    replace hc4 := dt hc4
    have g15 := hc4
    refine r_region' (l_q (qmi rfl rfl) (l_q (q_add rfl rfl (by omega) rfl) (l_q (qai rfl rfl) (l_nil (r_forget [(0, .slice _ _ _), (3, .int _ _), (4, .int _ _)] ⟨rfl, rfl, rfl, trivial⟩ (fun e5 => (r_inBlock (r_region' (l_q (qmi rfl rfl) (l_q (q_add rfl rfl (by omega) rfl) (l_q (qai rfl rfl) (l_nil ?_))))))))))))
    exact ih1 (k + 1, n + 1) _ _ ⟨⟨rfl, rfl, (vint_eq (by omega)), trivial⟩, (by omega), (by rw [fals_take hkx g15, hn]), (by omega), hsz, hB⟩ (by first | omega | (dsimp only; omega))
   ·
    replace hc4 := df hc4
    have g15 := hc4
    refine r_skip (r_inBlock (r_region' (l_q (qmi rfl rfl) (l_q (q_add rfl rfl (by omega) rfl) (l_q (qai rfl rfl) (l_nil (r_forget [(0, .slice _ _ _), (3, .int _ _), (4, .int _ _)] ⟨rfl, rfl, rfl, trivial⟩ (fun e6 => ?_))))))))
    exact ih1 (k + 1, n) _ _ ⟨⟨rfl, rfl, (vint_eq (by omega)), trivial⟩, (by omega), (by rw [fals_keep hkx g15, hn]), (by omega), hsz, hB⟩ (by first | omega | (dsimp only; omega))
  ·
   replace hc2 := dlt hc2
   refine r_exit rfl (r_seq (r_region' (l_q (qmi rfl rfl) (l_q (qai rfl rfl) (l_nil (r_ret_ (vs := [.int _ _]) rfl Tryz.func51 rfl (.nil _) ⟨rfl, trivial⟩ ?_))))))
   exact ⟨vint_eq (by rw [hn, List.take_of_length_le (by omega)]), Ext.of_below hB⟩
theorem isAsg6_ret (ka : Option Addr) (kc : Nat) (co : List Sg) (er : Int) (sa : Option Addr) (sc : Nat) (se : List Int) (ja : Option Addr) (jc : Nat) (sl : List SN) (ra : Option Addr) (rc : Nat) (rl : List RC) (xa : Option Addr) (xc : Nat) (xs : List Int) (w : World) (hlg : LgAt w ka kc co sa sc se ja jc sl ra rc rl) (hbg : LgBig co er se sl rl) (hx : Row w xa xs.length xc 1 (xs.map vint)) (hxn : xs.length ≤ 2097152) (hok : faultM (lg co er se sl rl) = 0) : Ret Tryz.prog 46 [.agg ⟨[.slice ka co.length kc, vint er, .slice sa se.length sc, .slice ja sl.length jc, .slice ra rl.length rc]⟩, .slice xa xs.length xc, vint (0 : Int)] w (fun v w' => v = .bool (asgB (lg co er se sl rl) xs) ∧ Ext w w') := by
 obtain ⟨⟨hcn, hcl⟩, hen, hsn, ⟨hjn, hjl⟩, hrn, hrl⟩ := id hbg
 obtain ⟨⟨hs1, hs4⟩, hj8, hr6, hf0, ⟨he0, he3⟩, hsr, hJn, hRn⟩ := lg_ok hok
 have hj8s : sl.length ≤ 8 := by have h := hj8; rwa [lgJ] at h
 have hr6s : rl.length ≤ 6 := hr6
 have hB := Below.refl w.heap.size w
 have hsz : w.heap.size ≤ w.heap.size := Nat.le_refl _
 refine ret_of_runs (args := [_, _, _]) Tryz.func46 rfl (Nat.le_of_ble_eq_true rfl) (by kernel_rfl) (r_seq (r_region' (l_o (o_box rfl rfl rfl ?_))))
 intro b1 w1 hzl1 hzr1 _ hb1 hE1
 have hbs_b1 : w.heap.size ≤ b1 := Nat.le_trans hsz hzl1
 replace hB := below_ext hB hE1 hsz
 replace hsz := Nat.le_trans hsz hE1.size
 refine l_q (qab rfl rfl) (l_nil (r_seq (r_seq (r_region' (l_q (qms rfl rfl) (l_q (q_len rfl Tryz.underlying25 rfl rfl) (l_q (q_fieldAddr (o' := 4) rfl fld29_4 rfl) (l_q (q_load Tryz.isAgg27 rfl ((hb1.has (o := 4) rfl)) rfl) (l_q (q_len rfl Tryz.underlying27 rfl rfl) (l_q (q_neq rfl rfl rfl) (l_nil (r_cond rfl (fun hc2 => ?_) (fun hc2 => ?_)))))))))))))
 ·
  replace hc2 := df (nt hc2)
  refine r_seq (r_region' (l_q (qab rfl rfl) (l_nil (r_forget [(6, .bool _)] ⟨rfl, trivial⟩ (fun e3 => (r_ret_ (vs := [.bool _]) rfl Tryz.func46 rfl (.nil _) ⟨rfl, trivial⟩ ?_))))))
  exact ⟨vbool_eq (asgB_len (by omega)).symm, Ext.of_below hB⟩
 ·
  replace hc2 := dt (nf hc2)
  have hlr : xs.length = rl.length := by omega
  refine r_skip (r_seq (r_seq (r_region' (l_q (qai rfl rfl) (l_nil (r_block (r_rounds (α := Nat) (fun k e wl => Knows e [(1, .slice xa xs.length xc), (2, vint (0 : Int)), (3, ptr b1 0), (7, vint (k : Int))] ∧ (k ≤ xs.length) ∧ (∀ j, j < k → okAt (canB (lg co er se sl rl)) sl.length noB xs j) ∧ (Blk wl b1 [.slice ka co.length kc, vint er, .slice sa se.length sc, .slice ja sl.length jc, .slice ra rl.length rc]) ∧ (w.heap.size ≤ wl.heap.size) ∧ (Below w.heap.size w wl)) (fun k => xs.length - k) 0 ?_ ?_)))))))
  ·
   exact ⟨⟨rfl, rfl, rfl, rfl, trivial⟩, (Nat.zero_le _), (fun i hi => absurd hi (Nat.not_lt_zero _)), hb1, hsz, hB⟩
  ·
   rintro k el4 wl4 ⟨hkn, hkk, hno, hb1, hsz, hB⟩ ih4
   obtain ⟨e4, rfl⟩ := knows_env hkn
   refine r_seq (r_seq (r_region' (l_q (qmi rfl rfl) (l_q (qms rfl rfl) (l_q (q_len rfl Tryz.underlying25 rfl rfl) (l_q (q_lss rfl rfl rfl) (l_nil (r_cond rfl (fun hc5 => ?_) (fun hc5 => ?_)))))))))
   ·
    replace hc5 := dt hc5
    have hkx : k < xs.length := by omega
    have hkR : k < rl.length := by omega
    refine r_skip (r_seq (r_block (r_seq (r_seq (r_region' (l_q (qmi rfl rfl) (l_q (qmi rfl rfl) (l_q (q_toUint Tryz.underlying3 Tryz.underlying64 rfl (by omega) rfl) (l_q (q_shr rfl rfl (by omega) rfl) (l_q (q_rem rfl rfl (by rw [Int.zero_ediv]; omega) rfl) (l_q (q_eql rfl rfl rfl) (l_nil ?_))))))))))))
    have hk6 : (decide ((((0 : Int) / 2 ^ k) % 2) = 1)) = false := by simp
    refine r_cond_f ((congrArg Value.bool hk6 : Value.bool _ = _)) (r_skip (r_seq (r_seq (r_draw ext_refl' ext_trans' [0, 1, 2, 3, 4, 5, 6, 7, 8, 9] [8] 8 (by kernel_rfl) (by kernel_rfl) ?_))))
    intro w7 _ hE7
    replace hB := below_ext hB hE7 hsz
    replace hb1 := hb1.ext hE7
    replace hsz := Nat.le_trans hsz hE7.size
    refine m_q rfl rfl (fun w' hC' => qms rfl rfl) (m_q rfl rfl (fun w' hC' => qmi rfl rfl) ?_)
    obtain ⟨b8, o8, ha8, hh8⟩ := (hx.below hB).at1 k ((xs).getD k 0) (getD_some (by omega))
    refine m_q rfl rfl (fun w' hC' => q_indexAddr1 Tryz.underlying25 Tryz.sizeOf3 rfl ha8 rfl (by omega) rfl) (m_q rfl rfl (fun w' hC' => q_load Tryz.isAgg3 rfl ((hh8.ext hC')) rfl) (m_q rfl rfl (fun w' hC' => q_fieldAddr (o' := 3) rfl fld29_3 rfl) (m_q rfl rfl (fun w' hC' => q_load Tryz.isAgg26 rfl (((hb1.has (o := 3) rfl).ext hC')) rfl) (m_q rfl rfl (fun w' hC' => q_len rfl Tryz.underlying26 rfl rfl) (m_q rfl rfl (fun w' hC' => q_sub rfl rfl (by omega) rfl) (m_o rfl rfl (o_call Tryz.call23 rfl (in6_ret _ _ _ _) rfl ?_)))))))
    rintro _ w9 ⟨rfl, rfl⟩
    refine ⟨Ext.refl _, ?_⟩
    refine m_q rfl rfl (fun w' hC' => q_not rfl rfl) (m_nil (r_forget [(1, .slice _ _ _), (2, .int _ _), (3, .pointer _), (7, .int _ _), (38, .bool _)] ⟨rfl, rfl, rfl, rfl, rfl, trivial⟩ (fun e10 => (r_cond rfl (fun hc11 => ?_) (fun hc11 => ?_)))))
    ·
     replace hc11 := b2f (nt hc11)
     refine r_seq (r_region' (l_q (qab rfl rfl) (l_nil (r_ret_ (vs := [.bool _]) rfl Tryz.func46 rfl (.nil _) ⟨rfl, trivial⟩ ?_))))
     exact ⟨vbool_eq (asgB_no hlr hkx (ok_rng (by omega))).symm, Ext.of_below hB⟩
    ·
     replace hc11 := b2t (nf hc11)
     have hrg : -1 ≤ xs.getD k 0 ∧ xs.getD k 0 ≤ (sl.length : Int) - 1 := by omega
     refine r_skip (r_seq (r_seq (r_region' (l_q (qms rfl rfl) (l_q (qmi rfl rfl) ?_)))))
     obtain ⟨b12, o12, ha12, hh12⟩ := (hx.below hB).at1 k ((xs).getD k 0) (getD_some (by omega))
     refine l_q (q_indexAddr1 Tryz.underlying25 Tryz.sizeOf3 rfl ha12 rfl (by omega) rfl) (l_q (q_load Tryz.isAgg3 rfl (hh12) rfl) (l_q (q_lss rfl rfl rfl) (l_nil (r_cond rfl (fun hc13 => ?_) (fun hc13 => ?_)))))
     ·
      replace hc13 := dt hc13
      have g43 := hc13
      refine r_seq (r_seq (r_region' (l_q (q_load_agg (n := 5) Tryz.isAgg29 Tryz.sizeOf29 rfl ((hb1.cells' (cs' := [_, _, _, _, _]) 0 5 rfl)) rfl rfl) (l_q (qmi rfl rfl) (l_o (o_call Tryz.call30 rfl (rmasked6_ret ka kc co er sa sc se ja jc sl ra rc rl k _ (hlg.below hB) hbg hok hkR) rfl ?_))))))
      rintro _ w14 ⟨a14_0, c14_0, rfl, hr14_0, hE14⟩
      replace hB := below_ext hB hE14 hsz
      replace hb1 := hb1.ext hE14
      replace hsz := Nat.le_trans hsz hE14.size
      refine l_q (q_move (v := .tuple _) rfl rfl) (l_q (q_extract (vs := [_, _]) (v := .slice _ _ _) rfl rfl rfl) (l_q (q_extract (vs := [_, _]) (v := .bool _) rfl rfl rfl) (l_q (qas rfl rfl) (l_q (qab rfl rfl) (l_nil (r_forget [(1, .slice _ _ _), (2, .int _ _), (3, .pointer _), (7, .int _ _), (9, .bool _)] ⟨rfl, rfl, rfl, rfl, rfl, trivial⟩ (fun e15 => (r_seq (r_region' (l_q (qmb rfl rfl) (l_q (q_not rfl rfl) (l_nil (r_cond rfl (fun hc16 => ?_) (fun hc16 => ?_))))))))))))))
      ·
       replace hc16 := nt hc16
       have g51 : (maskO (lg co er se sl rl) (rl.getD k rcd0)).isSome = false := by simpa using hc16
       refine r_seq (r_region' (l_q (qab rfl rfl) (l_nil (r_ret_ (vs := [.bool _]) rfl Tryz.func46 rfl (.nil _) ⟨rfl, trivial⟩ ?_))))
       exact ⟨vbool_eq (asgB_no hlr hkx (fun h => by rw [(ok_fal hrg g43 hkx).1 h] at g51; cases g51)).symm, Ext.of_below hB⟩
      ·
       replace hc16 := nf hc16
       have g51 : (maskO (lg co er se sl rl) (rl.getD k rcd0)).isSome = true := by simpa using hc16
       refine r_skip (r_exit rfl (r_region' (l_q (qmi rfl rfl) (l_q (q_add rfl rfl (by omega) rfl) (l_q (qai rfl rfl) (l_nil ?_))))))
       exact ih4 (k + 1) _ _ ⟨⟨rfl, rfl, rfl, (vint_eq (by omega)), trivial⟩, (by omega), (fun j hj => by rcases Nat.lt_succ_iff_lt_or_eq.1 hj with h | h; exact hno j h; subst h; exact (ok_fal hrg g43 hkx).2 g51), hb1, hsz, hB⟩ (by first | omega | (dsimp only; omega))
     ·
      replace hc13 := dlt hc13
      have g43 := hc13
      refine r_skip (r_seq (r_seq (r_draw ext_refl' ext_trans' [0, 1, 2, 3, 4, 5, 6, 7] [6] 6 (by kernel_rfl) (by kernel_rfl) ?_)))
      intro w17 _ hE17
      replace hB := below_ext hB hE17 hsz
      replace hb1 := hb1.ext hE17
      replace hsz := Nat.le_trans hsz hE17.size
      refine m_q rfl rfl (fun w' hC' => q_load_agg (n := 5) Tryz.isAgg29 Tryz.sizeOf29 rfl (((hb1.cells' (cs' := [_, _, _, _, _]) 0 5 rfl).ext hC')) rfl rfl) (m_q rfl rfl (fun w' hC' => qmi rfl rfl) (m_q rfl rfl (fun w' hC' => qms rfl rfl) (m_q rfl rfl (fun w' hC' => qmi rfl rfl) ?_)))
      obtain ⟨b18, o18, ha18, hh18⟩ := (hx.below hB).at1 k ((xs).getD k 0) (getD_some (by omega))
      refine m_q rfl rfl (fun w' hC' => q_indexAddr1 Tryz.underlying25 Tryz.sizeOf3 rfl ha18 rfl (by omega) rfl) (m_q rfl rfl (fun w' hC' => q_load Tryz.isAgg3 rfl ((hh18.ext hC')) rfl) (m_o rfl rfl (o_call Tryz.call67 rfl ((by have h := isOwn6_ret ka kc co er sa sc se ja jc sl ra rc rl k ((xs).getD k 0).toNat w17 (hlg.below hB) hbg hok hkR (by omega); rwa [show ((((xs).getD k 0).toNat : Nat) : Int) = (xs).getD k 0 by omega] at h)) rfl ?_)))
      rintro _ w19 ⟨rfl, hE19⟩
      refine ⟨hE19, ?_⟩
      replace hB := below_ext hB hE19 hsz
      replace hb1 := hb1.ext hE19
      replace hsz := Nat.le_trans hsz hE19.size
      refine m_q rfl rfl (fun w' hC' => q_not rfl rfl) (m_nil (r_forget [(1, .slice _ _ _), (2, .int _ _), (3, .pointer _), (7, .int _ _), (59, .bool _)] ⟨rfl, rfl, rfl, rfl, rfl, trivial⟩ (fun e20 => (r_cond rfl (fun hc21 => ?_) (fun hc21 => ?_)))))
      ·
       replace hc21 := nt hc21
       have g59 : ownB (lg co er se sl rl) (rl.getD k rcd0) (sl.getD (xs.getD k 0).toNat sn00).pn = false := by simpa using hc21
       refine r_seq (r_region' (l_q (qab rfl rfl) (l_nil (r_ret_ (vs := [.bool _]) rfl Tryz.func46 rfl (.nil _) ⟨rfl, trivial⟩ ?_))))
       exact ⟨vbool_eq (asgB_no hlr hkx (fun h => by rw [((ok_own hrg (by omega) hkx).1 h).1] at g59; cases g59)).symm, Ext.of_below hB⟩
      ·
       replace hc21 := nf hc21
       have g59 : ownB (lg co er se sl rl) (rl.getD k rcd0) (sl.getD (xs.getD k 0).toNat sn00).pn = true := by simpa using hc21
       refine r_skip (r_seq (r_region' (l_q (qai rfl rfl) (l_nil (r_block (r_rounds (α := Nat) (fun q e wl => Knows e [(1, .slice xa xs.length xc), (2, vint (0 : Int)), (3, ptr b1 0), (7, vint (k : Int)), (10, vint (q : Int))] ∧ (q ≤ k) ∧ (∀ j, j < q → ¬ xs.getD j 0 = xs.getD k 0) ∧ (Blk wl b1 [.slice ka co.length kc, vint er, .slice sa se.length sc, .slice ja sl.length jc, .slice ra rl.length rc]) ∧ (w.heap.size ≤ wl.heap.size) ∧ (Below w.heap.size w wl)) (fun q => k - q) 0 ?_ ?_))))))
       ·
        exact ⟨⟨rfl, rfl, rfl, rfl, rfl, trivial⟩, (Nat.zero_le _), (fun i hi => absurd hi (Nat.not_lt_zero _)), hb1, hsz, hB⟩
       ·
        rintro q el22 wl22 ⟨hkn, hkq, hq, hb1, hsz, hB⟩ ih22
        obtain ⟨e22, rfl⟩ := knows_env hkn
        refine r_seq (r_seq (r_region' (l_q (qmi rfl rfl) (l_q (qmi rfl rfl) (l_q (q_lss rfl rfl rfl) (l_nil (r_cond rfl (fun hc23 => ?_) (fun hc23 => ?_))))))))
        ·
         replace hc23 := dt hc23
         have hqk : q < k := by omega
         refine r_skip (r_seq (r_block (r_seq (r_draw ext_refl' ext_trans' [0, 1, 2, 3, 4, 5, 6, 7, 8, 9, 10, 11, 12, 13, 14, 15, 16] [] 14 (by kernel_rfl) (by kernel_rfl) ?_))))
         intro w24 _ hE24
         replace hB := below_ext hB hE24 hsz
         replace hb1 := hb1.ext hE24
         replace hsz := Nat.le_trans hsz hE24.size
         refine m_q rfl rfl (fun w' hC' => qmi rfl rfl) (m_q rfl rfl (fun w' hC' => qmi rfl rfl) (m_q rfl rfl (fun w' hC' => q_toUint Tryz.underlying3 Tryz.underlying64 rfl (by omega) rfl) (m_q rfl rfl (fun w' hC' => q_shr rfl rfl (by omega) rfl) (m_q rfl rfl (fun w' hC' => q_rem rfl rfl (by rw [Int.zero_ediv]; omega) rfl) (m_q rfl rfl (fun w' hC' => q_eql rfl rfl rfl) (m_q rfl rfl (fun w' hC' => qmb rfl rfl) ?_))))))
         have hk25 : (decide ((((0 : Int) / 2 ^ q) % 2) = 0)) = true := by simp
         refine m_part 71 rfl (fun _ => ?_) (fun hx => absurd (hk25.symm.trans hx) (by decide))
         refine m_q rfl rfl (fun w' hC' => qms rfl rfl) (m_q rfl rfl (fun w' hC' => qmi rfl rfl) ?_)
         obtain ⟨b26, o26, ha26, hh26⟩ := (hx.below hB).at1 q ((xs).getD q 0) (getD_some (by omega))
         refine m_q rfl rfl (fun w' hC' => q_indexAddr1 Tryz.underlying25 Tryz.sizeOf3 rfl ha26 rfl (by omega) rfl) (m_q rfl rfl (fun w' hC' => q_load Tryz.isAgg3 rfl ((hh26.ext hC')) rfl) (m_q rfl rfl (fun w' hC' => qms rfl rfl) (m_q rfl rfl (fun w' hC' => qmi rfl rfl) ?_)))
         obtain ⟨b27, o27, ha27, hh27⟩ := (hx.below hB).at1 k ((xs).getD k 0) (getD_some (by omega))
         refine m_q rfl rfl (fun w' hC' => q_indexAddr1 Tryz.underlying25 Tryz.sizeOf3 rfl ha27 rfl (by omega) rfl) (m_q rfl rfl (fun w' hC' => q_load Tryz.isAgg3 rfl ((hh27.ext hC')) rfl) (m_q rfl rfl (fun w' hC' => q_eql rfl rfl rfl) (m_q rfl rfl (fun w' hC' => q_pick_t (v := .bool _) rfl rfl rfl) (m_nil (r_forget [(1, .slice _ _ _), (2, .int _ _), (3, .pointer _), (7, .int _ _), (10, .int _ _), (81, .bool _)] ⟨rfl, rfl, rfl, rfl, rfl, rfl, trivial⟩ (fun e28 => (r_cond rfl (fun hc29 => ?_) (fun hc29 => ?_))))))))
         ·
          replace hc29 := dt hc29
          have g81 := hc29
          refine r_seq (r_region' (l_q (qab rfl rfl) (l_nil (r_ret_ (vs := [.bool _]) rfl Tryz.func46 rfl (.nil _) ⟨rfl, trivial⟩ ?_))))
          exact ⟨vbool_eq (asgB_no hlr hkx (fun h => ((ok_own hrg (by omega) hkx).1 h).2 q (by omega) g81)).symm, Ext.of_below hB⟩
         ·
          replace hc29 := df hc29
          have g81 := hc29
          refine r_skip (r_inBlock (r_region' (l_q (qmi rfl rfl) (l_q (q_add rfl rfl (by omega) rfl) (l_q (qai rfl rfl) (l_nil ?_))))))
          exact ih22 (q + 1) _ _ ⟨⟨rfl, rfl, rfl, rfl, (vint_eq (by omega)), trivial⟩, (by omega), (fun j hj => by rcases Nat.lt_succ_iff_lt_or_eq.1 hj with h | h; exact hq j h; subst h; exact g81), hb1, hsz, hB⟩ (by first | omega | (dsimp only; omega))
        ·
         replace hc23 := dlt hc23
         refine r_exit rfl (r_inBlock (r_region' (l_q (qmi rfl rfl) (l_q (q_add rfl rfl (by omega) rfl) (l_q (qai rfl rfl) (l_nil ?_))))))
         exact ih4 (k + 1) _ _ ⟨⟨rfl, rfl, rfl, (vint_eq (by omega)), trivial⟩, (by omega), (fun j hj => by rcases Nat.lt_succ_iff_lt_or_eq.1 hj with h | h; exact hno j h; subst h; exact (ok_own hrg (by omega) hkx).2 ⟨g59, fun j hj => hq j (by omega)⟩), hb1, hsz, hB⟩ (by first | omega | (dsimp only; omega))
   ·
    replace hc5 := dlt hc5
    refine r_exit rfl (r_seq (r_region' (l_q (qab rfl rfl) (l_nil (r_ret_ (vs := [.bool _]) rfl Tryz.func46 rfl (.nil _) ⟨rfl, trivial⟩ ?_)))))
    exact ⟨vbool_eq (asgB_yes hlr (fun j hj => hno j (by omega))).symm, Ext.of_below hB⟩
theorem cans6_ret (ka : Option Addr) (kc : Nat) (co : List Sg) (er : Int) (sa : Option Addr) (sc : Nat) (se : List Int) (ja : Option Addr) (jc : Nat) (sl : List SN) (ra : Option Addr) (rc : Nat) (rl : List RC) (w : World) (hlg : LgAt w ka kc co sa sc se ja jc sl ra rc rl) (hbg : LgBig co er se sl rl) (hok : faultM (lg co er se sl rl) = 0) : Ret Tryz.prog 108 [.agg ⟨[.slice ka co.length kc, vint er, .slice sa se.length sc, .slice ja sl.length jc, .slice ra rl.length rc]⟩] w (fun v w' => ∃ oa oc M, v = .slice oa (List.length M) oc ∧ w'.ownsRow w.heap.size 25 1 (.slice oa (List.length M) oc) (List.length M) (M.map SV.enc) ∧ OwnsI w' w.heap.size 3 M ∧ M.map (·.xs) = rl.map (cansR (lg co er se sl rl)) ∧ Ext w w') := by
 obtain ⟨⟨hcn, hcl⟩, hen, hsn, ⟨hjn, hjl⟩, hrn, hrl⟩ := id hbg
 obtain ⟨⟨hs1, hs4⟩, hj8, hr6, hf0, ⟨he0, he3⟩, hsr, hJn, hRn⟩ := lg_ok hok
 have hj8s : sl.length ≤ 8 := by have h := hj8; rwa [lgJ] at h
 have hr6s : rl.length ≤ 6 := hr6
 have hB := Below.refl w.heap.size w
 have hsz : w.heap.size ≤ w.heap.size := Nat.le_refl _
 refine ret_of_runs (args := [_]) Tryz.func108 rfl (Nat.le_of_ble_eq_true rfl) (by kernel_rfl) (r_seq (r_region' (l_o (o_boxt rfl rfl rfl ?_))))
 intro b1 w1 hzl1 hzr1 _ hb1 hty_b1 hE1
 have hbs_b1 : w.heap.size ≤ b1 := Nat.le_trans hsz hzl1
 replace hB := below_ext hB hE1 hsz
 replace hsz := Nat.le_trans hsz hE1.size
 refine l_q (qas rfl rfl) (l_nil (r_seq (r_region' (l_q (qas rfl rfl) (l_nil (r_seq (r_seq (r_region' (l_q (qai rfl rfl) (l_nil (r_block (r_rounds (α := Nat × (Option Addr) × Nat × (List SV)) (fun ⟨k, oa, oc, M⟩ e wl => Knows e [(1, ptr b1 0), (3, .slice oa ((M).length) oc), (4, vint (k : Int))] ∧ (k ≤ rl.length) ∧ (M.map (·.xs) = (rl.take k).map (cansR (lg co er se sl rl))) ∧ (M.length = k) ∧ (wl.ownsRow w.heap.size 25 1 (.slice oa ((M).length) oc) ((M).length) ((M).map SV.enc)) ∧ (OwnsI wl w.heap.size 3 M) ∧ (Blk wl b1 [.slice ka co.length kc, vint er, .slice sa se.length sc, .slice ja sl.length jc, .slice ra rl.length rc]) ∧ (TyAt wl b1 29) ∧ (w.heap.size ≤ wl.heap.size) ∧ (Below w.heap.size w wl)) (fun ⟨k, oa, oc, M⟩ => rl.length - k) (0, none, 0, []) ?_ ?_))))))))))))
 ·
  exact ⟨⟨rfl, rfl, rfl, trivial⟩, (Nat.zero_le _), rfl, rfl, (World.ownsRow_nil _ _ _ _), (OwnsI.nil _ _ _), hb1, hty_b1, hsz, hB⟩
 ·
  rintro ⟨k, oa, oc, M⟩ el2 wl2 ⟨hkn, hk, hM, hMl, ho, hos, hb1, hty_b1, hsz, hB⟩ ih2
  obtain ⟨e2, rfl⟩ := knows_env hkn
  refine r_seq (r_seq (r_region' (l_q (qmi rfl rfl) (l_q (q_fieldAddr (o' := 4) rfl fld29_4 rfl) (l_q (q_load Tryz.isAgg27 rfl ((hb1.has (o := 4) rfl)) rfl) (l_q (q_len rfl Tryz.underlying27 rfl rfl) (l_q (q_lss rfl rfl rfl) (l_nil (r_cond rfl (fun hc3 => ?_) (fun hc3 => ?_))))))))))
  ·
   replace hc3 := dt hc3
   have hkR : k < rl.length := by omega
   have hol := own_le (l := (lg co er se sl rl)) (r := rl.getD k rcd0)
   refine r_skip (r_seq (r_block (r_seq ?_)))
   have hltM := OwnsI.under hos
   have hszW5 : w.heap.size ≤ wl2.heap.size := hsz
   have hszW : wl2.heap.size ≤ wl2.heap.size := Nat.le_refl _
   refine r_region' (l_q (q_load_agg (n := 5) Tryz.isAgg29 Tryz.sizeOf29 rfl ((hb1.cells' (cs' := [_, _, _, _, _]) 0 5 rfl)) rfl rfl) (l_q (qmi rfl rfl) (l_o (o_call Tryz.call25 rfl (rown6_ret ka kc co er sa sc se ja jc sl ra rc rl k _ (hlg.below hB) hbg hok hkR) rfl ?_))))
   rintro _ w4 ⟨a4_0, c4_0, rfl, ho4_0, hE4⟩
   replace ho4_0 := own_mono ho4_0 (show wl2.heap.size ≤ _ by omega)
   replace hB := below_ext hB hE4 hsz
   replace hb1 := hb1.ext hE4
   replace hty_b1 := hty_b1.ext hE4
   replace ho := own_ext ho hE4
   replace hos := hos.ext hE4
   replace hszW := Nat.le_trans hszW hE4.size
   replace hsz := Nat.le_trans hsz hE4.size
   refine l_q (qas rfl rfl) (l_nil (r_seq (r_seq (r_region' (l_q (q_load_agg (n := 5) Tryz.isAgg29 Tryz.sizeOf29 rfl ((hb1.cells' (cs' := [_, _, _, _, _]) 0 5 rfl)) rfl rfl) (l_q (qmi rfl rfl) (l_o (o_call Tryz.call30 rfl (rmasked6_ret ka kc co er sa sc se ja jc sl ra rc rl k _ (hlg.below hB) hbg hok hkR) rfl ?_))))))))
   rintro _ w5 ⟨a5_0, c5_0, rfl, hr5_0, hE5⟩
   replace hB := below_ext hB hE5 hsz
   replace hb1 := hb1.ext hE5
   replace hty_b1 := hty_b1.ext hE5
   replace ho := own_ext ho hE5
   replace hos := hos.ext hE5
   replace hszW := Nat.le_trans hszW hE5.size
   replace ho4_0 := own_ext ho4_0 hE5
   replace hsz := Nat.le_trans hsz hE5.size
   refine l_q (q_move (v := .tuple _) rfl rfl) (l_q (q_extract (vs := [_, _]) (v := .slice _ _ _) rfl rfl rfl) (l_q (q_extract (vs := [_, _]) (v := .bool _) rfl rfl rfl) (l_q (qas rfl rfl) (l_q (qab rfl rfl) (l_nil (r_forget [(1, .pointer _), (3, .slice _ _ _), (4, .int _ _), (5, .slice _ _ _), (7, .bool _)] ⟨rfl, rfl, rfl, rfl, rfl, trivial⟩ (fun e6 => (r_seq (r_region' (l_q (qmb rfl rfl) (l_nil (r_cond rfl (fun hc7 => ?_) (fun hc7 => ?_)))))))))))))
   ·
    have g24 := hc7
    refine r_region' ?_
    have hbl_b1 := hb1.lt
    refine l_o (o_buildSlice (el := 3) (cs := [vint (-1)]) Tryz.underlying25 el3 (by decide) (by kernel_rfl) rfl (by decide) rfl ?_)
    intro b8 w8 hzl8 hzr8 _ hb8 hE8 ho8
    have hne_b1_b8 : b1 ≠ b8 := by have := hb1.lt; omega
    have hbs_b8 : w.heap.size ≤ b8 := Nat.le_trans hsz hzl8
    have hWp_b8 := hszW
    have hbW_b8 := Nat.le_trans hszW hzl8
    replace hB := below_ext hB hE8 hsz
    replace hb1 := hb1.ext hE8
    replace hty_b1 := hty_b1.ext hE8
    replace ho := own_ext ho hE8
    replace hos := hos.ext hE8
    replace hszW := Nat.le_trans hszW hE8.size
    replace ho4_0 := own_ext ho4_0 hE8
    replace hsz := Nat.le_trans hsz hE8.size
    replace ho8 := own_mono ho8 (show wl2.heap.size ≤ _ by omega)
    refine l_q (qms rfl rfl) ?_
    have hbl_b1 := hb1.lt
    refine l_o (o_append_map (f := vint) ([(-1)]) (ownL (lg co er se sl rl) (rl.getD k rcd0)) Tryz.underlying25 el3 rfl rfl ho8 rfl (Row.of_owns ho4_0) (fun _ => rfl) (by (try simp only [List.length_append, List.length_cons, List.length_nil, List.length_take, List.length_drop, List.length_replicate]); omega) (by omega) rfl ?_)
    intro a9 c9 w9 hz9 ho9 hG9
    replace hB := below_own hB hG9 ho8 (by omega) hsz
    replace hsz := Nat.le_trans hsz hG9.size
    replace hb1 := hb1.step hG9 (own_ty_ne ho8 hty_b1 (by decide))
    replace ho := own_kept ho ho8 (by decide) hG9
    replace hos := OwnsI.apart hos hltM (own_mono ho8 (by omega)) hG9
    replace hszW := Nat.le_trans hszW hG9.size
    replace hty_b1 := TyAt.own hty_b1 ho8 hG9 (by decide)
    refine l_q (qas rfl rfl) (l_nil (r_region' (l_q (qms rfl rfl) (l_q (qms rfl rfl) ?_))))
    have hbl_b1 := hb1.lt
    refine l_o (o_buildSlice (el := 25) (cs := [.slice a9 (([(-1)] ++ (ownL (lg co er se sl rl) (rl.getD k rcd0))).length) c9]) Tryz.underlying47 el25 (by decide) (by kernel_rfl) rfl (by decide) rfl ?_)
    intro b10 w10 hzl10 hzr10 _ hb10 hE10 ho10
    have hne_b1_b10 : b1 ≠ b10 := by have := hb1.lt; omega
    have hbs_b10 : w.heap.size ≤ b10 := Nat.le_trans hsz hzl10
    have hWp_b10 := hszW
    have hbW_b10 := Nat.le_trans hszW hzl10
    replace hB := below_ext hB hE10 hsz
    replace hb1 := hb1.ext hE10
    replace hty_b1 := hty_b1.ext hE10
    replace ho := own_ext ho hE10
    replace hos := hos.ext hE10
    replace hszW := Nat.le_trans hszW hE10.size
    replace ho9 := own_ext ho9 hE10
    replace hsz := Nat.le_trans hsz hE10.size
    replace ho10 := own_mono ho10 (show wl2.heap.size ≤ _ by omega)
    have hos10 : OwnsI w10 wl2.heap.size 3 ([⟨a9, c9, [(-1)] ++ (ownL (lg co er se sl rl) (rl.getD k rcd0))⟩] : List SV) := OwnsI.snoc (OwnsI.nil _ _ _) (own_mono ho9 (by omega))
    have hbl_b1 := hb1.lt
    refine l_o (o_append_map (f := SV.enc) (M) (([⟨a9, c9, [(-1)] ++ (ownL (lg co er se sl rl) (rl.getD k rcd0))⟩] : List SV)) Tryz.underlying47 el25 rfl rfl ho rfl (Row.of_owns ho10) (fun _ => rfl) (by (try simp only [List.length_append, List.length_cons, List.length_nil, List.length_take, List.length_drop, List.length_replicate]); omega) (by omega) rfl ?_)
    intro a11 c11 w11 hz11 ho11 hG11
    replace hB := below_own hB hG11 ho (by omega) hsz
    replace hsz := Nat.le_trans hsz hG11.size
    replace hb1 := hb1.step hG11 (own_ty_ne ho hty_b1 (by decide))
    replace hos := hos.kept ho (by decide) hG11
    replace hszW := Nat.le_trans hszW hG11.size
    replace ho9 := own_kept ho9 ho (by decide) hG11
    replace hty_b1 := TyAt.own hty_b1 ho hG11 (by decide)
    have hos11 : OwnsI w11 w.heap.size 3 (M ++ ([⟨a9, c9, [(-1)] ++ (ownL (lg co er se sl rl) (rl.getD k rcd0))⟩] : List SV)) := (hos).snoc (own_mono ho9 (by omega))
    refine l_q (qas rfl rfl) (l_nil (r_forget [(1, .pointer _), (3, .slice _ _ _), (4, .int _ _)] ⟨rfl, rfl, rfl, trivial⟩ (fun e12 => (r_inBlock (r_region' (l_q (qmi rfl rfl) (l_q (q_add rfl rfl (by omega) rfl) (l_q (qai rfl rfl) (l_nil ?_)))))))))
    exact ih2 (k + 1, a11, c11, (M ++ ([⟨a9, c9, [(-1)] ++ (ownL (lg co er se sl rl) (rl.getD k rcd0))⟩] : List SV))) _ _ ⟨⟨rfl, rfl, (vint_eq (by omega)), trivial⟩, (by omega), (cans_snoc hkR hM (by exact cans_y g24)), (by rw [List.length_append, hMl]; rfl), ho11, hos11, hb1, hty_b1, hsz, hB⟩ (by first | omega | (dsimp only; omega))
   ·
    have g24 : ¬ (maskO (lg co er se sl rl) (rl.getD k rcd0)).isSome = true := by rw [hc7]; decide
    refine r_skip (r_region' (l_q (qms rfl rfl) (l_q (qms rfl rfl) ?_)))
    have hbl_b1 := hb1.lt
    refine l_o (o_buildSlice (el := 25) (cs := [.slice a4_0 ((ownL (lg co er se sl rl) (rl.getD k rcd0)).length) c4_0]) Tryz.underlying47 el25 (by decide) (by kernel_rfl) rfl (by decide) rfl ?_)
    intro b13 w13 hzl13 hzr13 _ hb13 hE13 ho13
    have hne_b1_b13 : b1 ≠ b13 := by have := hb1.lt; omega
    have hbs_b13 : w.heap.size ≤ b13 := Nat.le_trans hsz hzl13
    have hWp_b13 := hszW
    have hbW_b13 := Nat.le_trans hszW hzl13
    replace hB := below_ext hB hE13 hsz
    replace hb1 := hb1.ext hE13
    replace hty_b1 := hty_b1.ext hE13
    replace ho := own_ext ho hE13
    replace hos := hos.ext hE13
    replace hszW := Nat.le_trans hszW hE13.size
    replace ho4_0 := own_ext ho4_0 hE13
    replace hsz := Nat.le_trans hsz hE13.size
    replace ho13 := own_mono ho13 (show wl2.heap.size ≤ _ by omega)
    have hos13 : OwnsI w13 wl2.heap.size 3 ([⟨a4_0, c4_0, ownL (lg co er se sl rl) (rl.getD k rcd0)⟩] : List SV) := OwnsI.snoc (OwnsI.nil _ _ _) (own_mono ho4_0 (by omega))
    have hbl_b1 := hb1.lt
    refine l_o (o_append_map (f := SV.enc) (M) (([⟨a4_0, c4_0, ownL (lg co er se sl rl) (rl.getD k rcd0)⟩] : List SV)) Tryz.underlying47 el25 rfl rfl ho rfl (Row.of_owns ho13) (fun _ => rfl) (by (try simp only [List.length_append, List.length_cons, List.length_nil, List.length_take, List.length_drop, List.length_replicate]); omega) (by omega) rfl ?_)
    intro a14 c14 w14 hz14 ho14 hG14
    replace hB := below_own hB hG14 ho (by omega) hsz
    replace hsz := Nat.le_trans hsz hG14.size
    replace hb1 := hb1.step hG14 (own_ty_ne ho hty_b1 (by decide))
    replace hos := hos.kept ho (by decide) hG14
    replace hszW := Nat.le_trans hszW hG14.size
    replace ho4_0 := own_kept ho4_0 ho (by decide) hG14
    replace hty_b1 := TyAt.own hty_b1 ho hG14 (by decide)
    have hos14 : OwnsI w14 w.heap.size 3 (M ++ ([⟨a4_0, c4_0, ownL (lg co er se sl rl) (rl.getD k rcd0)⟩] : List SV)) := (hos).snoc (own_mono ho4_0 (by omega))
    refine l_q (qas rfl rfl) (l_nil (r_inBlock (r_region' (l_q (qmi rfl rfl) (l_q (q_add rfl rfl (by omega) rfl) (l_q (qai rfl rfl) (l_nil ?_)))))))
    exact ih2 (k + 1, a14, c14, (M ++ ([⟨a4_0, c4_0, ownL (lg co er se sl rl) (rl.getD k rcd0)⟩] : List SV))) _ _ ⟨⟨rfl, rfl, (vint_eq (by omega)), trivial⟩, (by omega), (cans_snoc hkR hM (by exact cans_n g24)), (by rw [List.length_append, hMl]; rfl), ho14, hos14, hb1, hty_b1, hsz, hB⟩ (by first | omega | (dsimp only; omega))
  ·
   replace hc3 := dlt hc3
   refine r_exit rfl (r_seq (r_region' (l_q (qms rfl rfl) (l_q (qas rfl rfl) (l_nil (r_ret_ (vs := [.slice _ _ _]) rfl Tryz.func108 rfl (.nil _) ⟨rfl, trivial⟩ ?_))))))
   exact ⟨oa, oc, M, rfl, ho, hos, (by rw [hM, List.take_of_length_le (by omega)]), Ext.of_below hB⟩
set_option maxHeartbeats 2000000 in
theorem all6_ret (ka : Option Addr) (kc : Nat) (co : List Sg) (er : Int) (sa : Option Addr) (sc : Nat) (se : List Int) (ja : Option Addr) (jc : Nat) (sl : List SN) (ra : Option Addr) (rc : Nat) (rl : List RC) (ot : Nat) (w : World) (hlg : LgAt w ka kc co sa sc se ja jc sl ra rc rl) (hbg : LgBig co er se sl rl) (hok : faultM (lg co er se sl rl) = 0) (hot : ot < 1048576) (hJ5 : sl.length ≤ 5) (hR4 : rl.length ≤ 4) : Ret Tryz.prog 76 [.agg ⟨[.slice ka co.length kc, vint er, .slice sa se.length sc, .slice ja sl.length jc, .slice ra rl.length rc]⟩, vint (ot : Int)] w (fun v w' => ∃ oa oc M, v = .slice oa (List.length M) oc ∧ Row w' oa (List.length M) oc 1 (M.map SV.enc) ∧ RowsI w' M ∧ M.map (·.xs) = allF (canB (lg co er se sl rl)) sl.length (bitB ot) rl.length [] ∧ Ext w w') := by
 obtain ⟨⟨hcn, hcl⟩, hen, hsn, ⟨hjn, hjl⟩, hrn, hrl⟩ := id hbg
 obtain ⟨⟨hs1, hs4⟩, hj8, hr6, hf0, ⟨he0, he3⟩, hsr, hJn, hRn⟩ := lg_ok hok
 have hj8s : sl.length ≤ 8 := by have h := hj8; rwa [lgJ] at h
 have hr6s : rl.length ≤ 6 := hr6
 have hB := Below.refl w.heap.size w
 have hsz : w.heap.size ≤ w.heap.size := Nat.le_refl _
 refine ret_of_runs (args := [_, _]) Tryz.func76 rfl (Nat.le_of_ble_eq_true rfl) (by kernel_rfl) (r_seq (r_region' (l_o (o_boxt rfl rfl rfl ?_))))
 intro b1 w1 hzl1 hzr1 _ hb1 hty_b1 hE1
 have hbs_b1 : w.heap.size ≤ b1 := Nat.le_trans hsz hzl1
 replace hB := below_ext hB hE1 hsz
 replace hsz := Nat.le_trans hsz hE1.size
 refine l_q (qas rfl rfl) (l_nil (r_seq (r_region' (l_q (q_load_agg (n := 5) Tryz.isAgg29 Tryz.sizeOf29 rfl ((hb1.cells' (cs' := [_, _, _, _, _]) 0 5 rfl)) rfl rfl) (l_o (o_call Tryz.call108 rfl (cans6_ret ka kc co er sa sc se ja jc sl ra rc rl _ (hlg.below hB) hbg hok) rfl ?_))))))
 rintro _ w2 ⟨ca, cc, C, rfl, hC, hCs, hCm, hE2⟩
 replace hB := below_ext hB hE2 hsz
 replace hb1 := hb1.ext hE2
 replace hsz := Nat.le_trans hsz hE2.size
 replace hCs := OwnsI.mono hCs (show w.heap.size ≤ _ by omega)
 have hCl : C.length = rl.length := by have h := congrArg List.length hCm; rwa [List.length_map, List.length_map] at h
 refine l_q (qas rfl rfl) (l_nil (r_seq ?_))
 have hBE := Below.refl w2.heap.size w2
 have hsz_hBE : w.heap.size ≤ w2.heap.size := hsz
 have hlt_hBE_b1 := hb1.lt
 have hszE1 : w.heap.size ≤ w2.heap.size := hsz
 refine r_region' ?_
 have hbl_b1 := (hb1.ext (Ext.of_below hBE)).lt
 have hszf3 := hBE.size
 refine l_o (o_buildSlice (el := 25) (cs := [.slice none 0 0]) Tryz.underlying47 el25 (by decide) (by kernel_rfl) rfl (by decide) rfl ?_)
 intro b4 w4 hzl4 hzr4 _ hb4 hE4 ho4
 have hne_b1_b4 : b1 ≠ b4 := by have := (hb1.ext (Ext.of_below hBE)).lt; omega
 have hbs_b4 : w.heap.size ≤ b4 := Nat.le_trans hsz hzl4
 replace hB := below_ext hB hE4 hsz
 replace hBE := below_ext hBE hE4 hBE.size
 replace hsz := Nat.le_trans hsz hE4.size
 replace ho4 := own_mono ho4 (show w2.heap.size ≤ _ by omega)
 refine l_q (qas rfl rfl) (l_nil (r_seq (r_seq (r_region' (l_q (qai rfl rfl) (l_nil (r_block (r_rounds (α := Nat × (Option Addr) × Nat × (List SV)) (fun ⟨r, aa, ac, A⟩ e wl => Knows e [(1, vint (ot : Int)), (2, ptr b1 0), (5, .slice ca ((C).length) cc), (6, .slice aa ((A).length) ac), (7, vint (r : Int))] ∧ (r ≤ rl.length) ∧ (A.map (·.xs) = allF (canB (lg co er se sl rl)) sl.length (bitB ot) r []) ∧ (wl.ownsRow w2.heap.size 25 1 (.slice aa ((A).length) ac) ((A).length) ((A).map SV.enc)) ∧ (OwnsI wl w2.heap.size 3 A) ∧ (Below w2.heap.size w2 wl) ∧ (w.heap.size ≤ wl.heap.size) ∧ (Below w.heap.size w wl)) (fun ⟨r, aa, ac, A⟩ => rl.length - r) (0, some ⟨b4, 0, none⟩, 1, [sv0]) ?_ ?_))))))))
 ·
  exact ⟨⟨rfl, rfl, rfl, rfl, rfl, trivial⟩, (Nat.zero_le _), rfl, ho4, owns_sv0, hBE, hsz, hB⟩
 ·
  rintro ⟨r, aa, ac, A⟩ el5 wl5 ⟨hkn, hr, hA_, hA, hAs, hBE, hsz, hB⟩ ih5
  obtain ⟨e5, rfl⟩ := knows_env hkn
  refine r_seq (r_seq (r_region' (l_q (qmi rfl rfl) (l_q (q_fieldAddr (o' := 4) rfl fld29_4 rfl) (l_q (q_load Tryz.isAgg27 rfl (((hb1.ext (Ext.of_below hBE)).has (o := 4) rfl)) rfl) (l_q (q_len rfl Tryz.underlying27 rfl rfl) (l_q (q_lss rfl rfl rfl) (l_nil (r_cond rfl (fun hc6 => ?_) (fun hc6 => ?_))))))))))
  ·
   replace hc6 := dt hc6
   have hrR : r < rl.length := by omega
   refine r_skip (r_seq (r_block (r_seq ?_)))
   have hltA : ∀ g, (Value.slice aa (A).length ac).ownBlock = some g → g < wl5.heap.size := fun g hg => (hA.lt g hg).2
   have hltR := OwnsI.under hAs
   have hszEW := hBE.size
   have hszW : wl5.heap.size ≤ wl5.heap.size := Nat.le_refl _
   have hAc := svA_card hA_ hJ5 (show r ≤ 4 by omega)
   have hrR : r < rl.length := by omega
   refine r_region' (l_q (qas rfl rfl) (l_nil (r_seq (r_seq (r_region' (l_q (qai rfl rfl) (l_nil (r_block ?_))))))))
   refine r_rounds (α := Nat × (Option Addr) × Nat × (List SV)) (fun ⟨i, na, nc, M⟩ e wl => Knows e [(1, vint (ot : Int)), (2, ptr b1 0), (5, .slice ca ((C).length) cc), (6, .slice aa ((A).length) ac), (7, vint (r : Int)), (8, .slice na ((M).length) nc), (9, vint (i : Int))] ∧ (i ≤ A.length) ∧ (M.map (·.xs) = ((A.map (·.xs)).take i).flatMap (nxF (canB (lg co er se sl rl)) sl.length (bitB ot))) ∧ (wl.ownsRow wl5.heap.size 25 1 (.slice na ((M).length) nc) ((M).length) ((M).map SV.enc)) ∧ (OwnsI wl wl5.heap.size 3 M) ∧ (Below w2.heap.size w2 wl) ∧ (wl.ownsRow w2.heap.size 25 1 (.slice aa ((A).length) ac) ((A).length) ((A).map SV.enc)) ∧ (OwnsI wl w2.heap.size 3 A) ∧ (wl5.heap.size ≤ wl.heap.size) ∧ (w.heap.size ≤ wl.heap.size) ∧ (Below w.heap.size w wl)) (fun ⟨i, na, nc, M⟩ => A.length - i) (0, none, 0, []) ?_ ?_
   ·
    exact ⟨⟨rfl, rfl, rfl, rfl, rfl, rfl, rfl, trivial⟩, (Nat.zero_le _), rfl, (World.ownsRow_nil _ _ _ _), (OwnsI.nil _ _ _), hBE, hA, hAs, hszW, hsz, hB⟩
   ·
    rintro ⟨i, na, nc, M⟩ el7 wl7 ⟨hkn, hi, hM, hn, hns, hBE, hA, hAs, hszW, hsz, hB⟩ ih7
    obtain ⟨e7, rfl⟩ := knows_env hkn
    refine r_seq (r_seq (r_region' (l_q (qmi rfl rfl) (l_q (qms rfl rfl) (l_q (q_len rfl Tryz.underlying47 rfl rfl) (l_q (q_lss rfl rfl rfl) (l_nil (r_cond rfl (fun hc8 => ?_) (fun hc8 => ?_)))))))))
    ·
     replace hc8 := dt hc8
     have hiA : i < A.length := by omega
     have hpl := svA_len hA_ hiA
     have hMc := M_len hM (take_card (A := A) (i := i) (fun p => Nat.le_trans nx_len (show sl.length + 1 ≤ 6 by omega)))
     refine r_skip (r_seq (r_block (r_seq (r_seq ?_))))
     obtain ⟨q2, hq2, hqn2⟩ := shr_q ot r
     refine r_region' (l_q (qmi rfl rfl) (l_q (qmi rfl rfl) (l_q (q_toUint Tryz.underlying3 Tryz.underlying64 rfl (by omega) rfl) (l_q (q_shr rfl rfl (by omega) rfl) (l_q (q_rem rfl rfl (by omega) rfl) (l_q (q_eql rfl rfl rfl) (l_nil (r_cond rfl (fun hc9 => ?_) (fun hc9 => ?_)))))))))
     ·
      replace hc9 := dt hc9
      have ho1 : bitB ot (A.getD i sv0).xs.length = true := by rw [hpl]; exact shr_bit.1 hc9
      refine r_seq ?_
      have hltN := OwnsI.under hns
      have hszy : wl7.heap.size ≤ wl7.heap.size := Nat.le_refl _
      have hszW2 := hszW
      have hszE2 := hBE.size
      refine r_region' (l_q (qms rfl rfl) ?_)
      have hbl_b1 := (hb1.ext (Ext.of_below hBE)).lt
      have hszf10 := hBE.size
      have hszz11 := hszy
      refine l_o (o_buildSlice (el := 3) (cs := []) Tryz.underlying25 el3 (by decide) (by kernel_rfl) rfl (by decide) rfl ?_)
      intro b12 w12 hzl12 hzr12 _ hb12 hE12 ho12
      have hne_b1_b12 : b1 ≠ b12 := by have := (hb1.ext (Ext.of_below hBE)).lt; omega
      have hbs_b12 : w.heap.size ≤ b12 := Nat.le_trans hsz hzl12
      have hWp_b12 := hszW
      have hbW_b12 := Nat.le_trans hszW hzl12
      replace hB := below_ext hB hE12 hsz
      replace hBE := below_ext hBE hE12 hBE.size
      replace hA := own_ext hA hE12
      replace hAs := hAs.ext hE12
      replace hszW := Nat.le_trans hszW hE12.size
      replace hn := own_ext hn hE12
      replace hns := hns.ext hE12
      replace hszy := Nat.le_trans hszy hE12.size
      replace hsz := Nat.le_trans hsz hE12.size
      replace ho12 := own_mono ho12 (show wl7.heap.size ≤ _ by omega)
      refine l_q (qms rfl rfl) (l_q (qmi rfl rfl) ?_)
      have hr14 := hAs.rows.get (i := i) (by omega)
      obtain ⟨b13, o13, ha13, hh13⟩ := (Row.of_owns hA).at1 i ((A).getD i sv0) (getD_some (by omega))
      refine l_q (q_indexAddr1 Tryz.underlying47 Tryz.sizeOf25 rfl ha13 rfl (by omega) rfl) (l_q (q_load Tryz.isAgg25 rfl (hh13) rfl) ?_)
      have hbl_b1 := (hb1.ext (Ext.of_below hBE)).lt
      have hszf15 := hBE.size
      have hszz16 := hszy
      refine l_o (o_append_map (f := vint) ([]) (((A).getD i sv0).xs) Tryz.underlying25 el3 rfl rfl ho12 rfl hr14 (fun _ => rfl) (by (try simp only [List.length_append, List.length_cons, List.length_nil, List.length_take, List.length_drop, List.length_replicate]); omega) (by omega) rfl ?_)
      intro a17 c17 w17 hz17 ho17 hG17
      replace hB := below_own hB hG17 ho12 (by omega) hsz
      replace hsz := Nat.le_trans hsz hG17.size
      replace hBE := below_own hBE hG17 ho12 (by first | exact Nat.le_refl _ | omega) hBE.size
      replace hA := own_kept hA ho12 (by decide) hG17
      replace hAs := OwnsI.apart hAs hltR (own_mono ho12 (by omega)) hG17
      replace hszW := Nat.le_trans hszW hG17.size
      replace hn := own_kept hn ho12 (by decide) hG17
      replace hns := OwnsI.apart hns hltN ho12 hG17
      replace hszy := Nat.le_trans hszy hG17.size
      have hbl_b1 := (hb1.ext (Ext.of_below hBE)).lt
      have hszf18 := hBE.size
      have hszz19 := hszy
      refine l_o (o_buildSlice (el := 3) (cs := [vint (-2)]) Tryz.underlying25 el3 (by decide) (by kernel_rfl) rfl (by decide) rfl ?_)
      intro b20 w20 hzl20 hzr20 _ hb20 hE20 ho20
      have hne_b1_b20 : b1 ≠ b20 := by have := (hb1.ext (Ext.of_below hBE)).lt; omega
      have hbs_b20 : w.heap.size ≤ b20 := Nat.le_trans hsz hzl20
      have hWp_b20 := hszW
      have hbW_b20 := Nat.le_trans hszW hzl20
      replace hB := below_ext hB hE20 hsz
      replace hBE := below_ext hBE hE20 hBE.size
      replace hA := own_ext hA hE20
      replace hAs := hAs.ext hE20
      replace hszW := Nat.le_trans hszW hE20.size
      replace hn := own_ext hn hE20
      replace hns := hns.ext hE20
      replace hszy := Nat.le_trans hszy hE20.size
      replace ho17 := own_ext ho17 hE20
      replace hsz := Nat.le_trans hsz hE20.size
      replace ho20 := own_mono ho20 (show wl7.heap.size ≤ _ by omega)
      have hbl_b1 := (hb1.ext (Ext.of_below hBE)).lt
      have hszf21 := hBE.size
      have hszz22 := hszy
      refine l_o (o_append_map (f := vint) ([] ++ (((A).getD i sv0).xs)) ([(-2)]) Tryz.underlying25 el3 rfl rfl ho17 rfl (Row.of_owns ho20) (fun _ => rfl) (by (try simp only [List.length_append, List.length_cons, List.length_nil, List.length_take, List.length_drop, List.length_replicate]); omega) (by omega) rfl ?_)
      intro a23 c23 w23 hz23 ho23 hG23
      replace hB := below_own hB hG23 ho17 (by omega) hsz
      replace hsz := Nat.le_trans hsz hG23.size
      replace hBE := below_own hBE hG23 ho17 (by first | exact Nat.le_refl _ | omega) hBE.size
      replace hA := own_kept hA ho17 (by decide) hG23
      replace hAs := OwnsI.apart hAs hltR (own_mono ho17 (by omega)) hG23
      replace hszW := Nat.le_trans hszW hG23.size
      replace hn := own_kept hn ho17 (by decide) hG23
      replace hns := OwnsI.apart hns hltN ho17 hG23
      replace hszy := Nat.le_trans hszy hG23.size
      have hbl_b1 := (hb1.ext (Ext.of_below hBE)).lt
      have hszf24 := hBE.size
      have hszz25 := hszy
      refine l_o (o_buildSlice (el := 25) (cs := [.slice a23 ((([] ++ (((A).getD i sv0).xs)) ++ [(-2)]).length) c23]) Tryz.underlying47 el25 (by decide) (by kernel_rfl) rfl (by decide) rfl ?_)
      intro b26 w26 hzl26 hzr26 _ hb26 hE26 ho26
      have hne_b1_b26 : b1 ≠ b26 := by have := (hb1.ext (Ext.of_below hBE)).lt; omega
      have hbs_b26 : w.heap.size ≤ b26 := Nat.le_trans hsz hzl26
      have hWp_b26 := hszW
      have hbW_b26 := Nat.le_trans hszW hzl26
      replace hB := below_ext hB hE26 hsz
      replace hBE := below_ext hBE hE26 hBE.size
      replace hA := own_ext hA hE26
      replace hAs := hAs.ext hE26
      replace hszW := Nat.le_trans hszW hE26.size
      replace hn := own_ext hn hE26
      replace hns := hns.ext hE26
      replace hszy := Nat.le_trans hszy hE26.size
      replace ho23 := own_ext ho23 hE26
      replace hsz := Nat.le_trans hsz hE26.size
      replace ho26 := own_mono ho26 (show wl7.heap.size ≤ _ by omega)
      have hos26 : OwnsI w26 wl7.heap.size 3 ([⟨a23, c23, ([] ++ (((A).getD i sv0).xs)) ++ [(-2)]⟩] : List SV) := OwnsI.snoc (OwnsI.nil _ _ _) (own_mono ho23 (by omega))
      have hbl_b1 := (hb1.ext (Ext.of_below hBE)).lt
      have hszf27 := hBE.size
      have hszz28 := hszy
      refine l_o (o_append_map (f := SV.enc) (M) (([⟨a23, c23, ([] ++ (((A).getD i sv0).xs)) ++ [(-2)]⟩] : List SV)) Tryz.underlying47 el25 rfl rfl hn rfl (Row.of_owns ho26) (fun _ => rfl) (by (try simp only [List.length_append, List.length_cons, List.length_nil, List.length_take, List.length_drop, List.length_replicate]); omega) (by omega) rfl ?_)
      intro a29 c29 w29 hz29 ho29 hG29
      replace hB := below_own hB hG29 hn (by omega) hsz
      replace hsz := Nat.le_trans hsz hG29.size
      replace hBE := below_own hBE hG29 hn (by first | exact Nat.le_refl _ | omega) hBE.size
      replace hA := own_apart hA hltA (own_mono hn (by omega)) hG29
      replace hAs := hAs.kept hn (by decide) hG29
      replace hszW := Nat.le_trans hszW hG29.size
      replace hns := hns.kept hn (by decide) hG29
      replace hszy := Nat.le_trans hszy hG29.size
      replace ho23 := own_kept ho23 hn (by decide) hG29
      have hos29 : OwnsI w29 wl5.heap.size 3 (M ++ ([⟨a23, c23, ([] ++ (((A).getD i sv0).xs)) ++ [(-2)]⟩] : List SV)) := (hns).snoc (own_mono ho23 (by omega))
      refine l_q (qas rfl rfl) (l_nil (r_forget [(1, .int _ _), (2, .pointer _), (5, .slice _ _ _), (6, .slice _ _ _), (7, .int _ _), (8, .slice _ _ _), (9, .int _ _)] ⟨rfl, rfl, rfl, rfl, rfl, rfl, rfl, trivial⟩ (fun e30 => (r_exit rfl (r_region' (l_q (qmi rfl rfl) (l_q (q_add rfl rfl (by omega) rfl) (l_q (qai rfl rfl) (l_nil ?_)))))))))
      exact ih7 (i + 1, a29, c29, (M ++ ([⟨a23, c23, ([] ++ (((A).getD i sv0).xs)) ++ [(-2)]⟩] : List SV))) _ _ ⟨⟨rfl, rfl, rfl, rfl, rfl, rfl, (vint_eq (by omega)), trivial⟩, (by omega), (by rw [nx_take hiA, ← hM, List.map_append, nx_out ho1]; rfl), ho29, hos29, hBE, hA, hAs, hszW, hsz, hB⟩ (by first | omega | (dsimp only; omega))
     ·
      replace hc9 := df hc9
      have ho1 : bitB ot (A.getD i sv0).xs.length = false := by rw [hpl, ← Bool.not_eq_true]; exact fun h => hc9 (shr_bit.2 h)
      have hcl9 := cans_len (l := (lg co er se sl rl)) (r := rl.getD r rcd0) hok
      have hCx : (C.getD r sv0).xs = (cansR (lg co er se sl rl) (rl.getD r rcd0)) := by have h := svx_getD C r; rw [hCm, List.getD_eq_getElem?_getD, List.getElem?_map, List.getElem?_eq_getElem hrR] at h; rw [← h, List.getD_eq_getElem?_getD, List.getElem?_eq_getElem hrR]; rfl
      refine r_skip (r_seq (r_region' (l_q (qai rfl rfl) (l_nil (r_forget [(1, .int _ _), (2, .pointer _), (5, .slice _ _ _), (6, .slice _ _ _), (7, .int _ _), (8, .slice _ _ _), (9, .int _ _), (10, .int _ _)] ⟨rfl, rfl, rfl, rfl, rfl, rfl, rfl, rfl, trivial⟩ (fun e31 => (r_block ?_)))))))
      refine r_rounds (α := Nat × (Option Addr) × Nat × (List SV)) (fun ⟨c, na4, nc4, M4⟩ e wl => Knows e [(1, vint (ot : Int)), (2, ptr b1 0), (5, .slice ca ((C).length) cc), (6, .slice aa ((A).length) ac), (7, vint (r : Int)), (8, .slice na4 ((M4).length) nc4), (9, vint (i : Int)), (10, vint (c : Int))] ∧ (c ≤ (cansR (lg co er se sl rl) (rl.getD r rcd0)).length) ∧ (M4.map (·.xs) = ((A.map (·.xs)).take i).flatMap (nxF (canB (lg co er se sl rl)) sl.length (bitB ot)) ++ nxK (lg co er se sl rl) r (A.getD i sv0).xs c) ∧ (wl.ownsRow wl5.heap.size 25 1 (.slice na4 ((M4).length) nc4) ((M4).length) ((M4).map SV.enc)) ∧ (OwnsI wl wl5.heap.size 3 M4) ∧ (Below w2.heap.size w2 wl) ∧ (wl.ownsRow w2.heap.size 25 1 (.slice aa ((A).length) ac) ((A).length) ((A).map SV.enc)) ∧ (OwnsI wl w2.heap.size 3 A) ∧ (wl5.heap.size ≤ wl.heap.size) ∧ (w.heap.size ≤ wl.heap.size) ∧ (Below w.heap.size w wl)) (fun ⟨c, na4, nc4, M4⟩ => (cansR (lg co er se sl rl) (rl.getD r rcd0)).length - c) (0, na, nc, M) ?_ ?_
      ·
       exact ⟨⟨rfl, rfl, rfl, rfl, rfl, rfl, rfl, rfl, trivial⟩, (Nat.zero_le _), (by rw [nxK_0, List.append_nil]; exact hM), hn, hns, hBE, hA, hAs, hszW, hsz, hB⟩
      ·
       rintro ⟨c, na4, nc4, M4⟩ el32 wl32 ⟨hkn, hc, hM4, hn, hns, hBE, hA, hAs, hszW, hsz, hB⟩ ih32
       obtain ⟨e32, rfl⟩ := knows_env hkn
       refine r_seq (r_seq (r_region' (l_q (qmi rfl rfl) (l_q (qms rfl rfl) (l_q (qmi rfl rfl) ?_)))))
       have hr34 := (hCs.rows.ext (Ext.of_below hBE)).get (i := r) (by omega)
       obtain ⟨b33, o33, ha33, hh33⟩ := ((Row.of_owns hC).ext (Ext.of_below hBE)).at1 r ((C).getD r sv0) (getD_some (by omega))
       refine l_q (q_indexAddr1 Tryz.underlying47 Tryz.sizeOf25 rfl ha33 rfl (by omega) rfl) (l_q (q_load Tryz.isAgg25 rfl (hh33) rfl) (l_q (q_len rfl Tryz.underlying25 rfl rfl) (l_q (q_lss rfl rfl rfl) (l_nil (r_cond rfl (fun hc35 => ?_) (fun hc35 => ?_))))))
       ·
        replace hc35 := dt hc35
        have hcC : c < (cansR (lg co er se sl rl) (rl.getD r rcd0)).length := by rw [← hCx]; omega
        have hbr : -1 ≤ ((C.getD r sv0).xs).getD c 0 := by rw [hCx]; exact cans_rng (getD_lt (d := 0) hcC)
        have hM4c := M_len hM4 (app_card (take_card (A := A) (i := i) (fun p => Nat.le_trans nx_len (show sl.length + 1 ≤ 6 by omega))) (nxK_len hok))
        refine r_skip (r_seq (r_block (r_seq (r_region' (l_q (qms rfl rfl) (l_q (qmi rfl rfl) ?_))))))
        have hr37 := (hCs.rows.ext (Ext.of_below hBE)).get (i := r) (by omega)
        obtain ⟨b36, o36, ha36, hh36⟩ := ((Row.of_owns hC).ext (Ext.of_below hBE)).at1 r ((C).getD r sv0) (getD_some (by omega))
        refine l_q (q_indexAddr1 Tryz.underlying47 Tryz.sizeOf25 rfl ha36 rfl (by omega) rfl) (l_q (q_load Tryz.isAgg25 rfl (hh36) rfl) (l_q (qmi rfl rfl) ?_))
        obtain ⟨b38, o38, ha38, hh38⟩ := hr37.at1 c ((((C).getD r sv0).xs).getD c 0) (getD_some (by omega))
        refine l_q (q_indexAddr1 Tryz.underlying25 Tryz.sizeOf3 rfl ha38 rfl (by omega) rfl) (l_q (q_load Tryz.isAgg3 rfl (hh38) rfl) (l_q (qai rfl rfl) (l_nil (r_forget [(1, .int _ _), (2, .pointer _), (5, .slice _ _ _), (6, .slice _ _ _), (7, .int _ _), (8, .slice _ _ _), (9, .int _ _), (10, .int _ _), (11, .int _ _)] ⟨rfl, rfl, rfl, rfl, rfl, rfl, rfl, rfl, rfl, trivial⟩ (fun e39 => (r_seq (r_region' (l_q (qmi rfl rfl) (l_q (q_lss rfl rfl rfl) (l_q (qmb rfl rfl) (l_part 63 rfl (fun hc40 => ?_) (fun hc40 => ?_))))))))))))
        ·
         replace hc40 := dt hc40
         have g62 := hc40
         refine l_q (q_skip rfl) (l_q (q_skip rfl) (l_q (q_skip rfl) (l_q (q_skip rfl) (l_q (q_skip rfl) (l_q (q_skip rfl) (l_q (q_skip rfl) (l_q (q_pick_t (v := .bool _) rfl rfl rfl) (l_nil (r_forget [(1, .int _ _), (2, .pointer _), (5, .slice _ _ _), (6, .slice _ _ _), (7, .int _ _), (8, .slice _ _ _), (9, .int _ _), (10, .int _ _), (11, .int _ _), (71, .bool _)] ⟨rfl, rfl, rfl, rfl, rfl, rfl, rfl, rfl, rfl, rfl, trivial⟩ (fun e41 => (r_cond_t rfl ?_)))))))))))
         have hltN := OwnsI.under hns
         have hszy : wl32.heap.size ≤ wl32.heap.size := Nat.le_refl _
         have hszW2 := hszW
         have hszE2 := hBE.size
         refine r_region' (l_q (qms rfl rfl) ?_)
         have hbl_b1 := (hb1.ext (Ext.of_below hBE)).lt
         have hszf42 := hBE.size
         have hszz43 := hszy
         refine l_o (o_buildSlice (el := 3) (cs := []) Tryz.underlying25 el3 (by decide) (by kernel_rfl) rfl (by decide) rfl ?_)
         intro b44 w44 hzl44 hzr44 _ hb44 hE44 ho44
         have hne_b1_b44 : b1 ≠ b44 := by have := (hb1.ext (Ext.of_below hBE)).lt; omega
         have hbs_b44 : w.heap.size ≤ b44 := Nat.le_trans hsz hzl44
         have hWp_b44 := hszW
         have hbW_b44 := Nat.le_trans hszW hzl44
         replace hB := below_ext hB hE44 hsz
         replace hBE := below_ext hBE hE44 hBE.size
         replace hA := own_ext hA hE44
         replace hAs := hAs.ext hE44
         replace hszW := Nat.le_trans hszW hE44.size
         replace hns := hns.ext hE44
         replace hn := own_ext hn hE44
         replace hszy := Nat.le_trans hszy hE44.size
         replace hsz := Nat.le_trans hsz hE44.size
         replace ho44 := own_mono ho44 (show wl32.heap.size ≤ _ by omega)
         refine l_q (qms rfl rfl) (l_q (qmi rfl rfl) ?_)
         have hr46 := hAs.rows.get (i := i) (by omega)
         obtain ⟨b45, o45, ha45, hh45⟩ := (Row.of_owns hA).at1 i ((A).getD i sv0) (getD_some (by omega))
         refine l_q (q_indexAddr1 Tryz.underlying47 Tryz.sizeOf25 rfl ha45 rfl (by omega) rfl) (l_q (q_load Tryz.isAgg25 rfl (hh45) rfl) ?_)
         have hbl_b1 := (hb1.ext (Ext.of_below hBE)).lt
         have hszf47 := hBE.size
         have hszz48 := hszy
         refine l_o (o_append_map (f := vint) ([]) (((A).getD i sv0).xs) Tryz.underlying25 el3 rfl rfl ho44 rfl hr46 (fun _ => rfl) (by (try simp only [List.length_append, List.length_cons, List.length_nil, List.length_take, List.length_drop, List.length_replicate]); omega) (by omega) rfl ?_)
         intro a49 c49 w49 hz49 ho49 hG49
         replace hB := below_own hB hG49 ho44 (by omega) hsz
         replace hsz := Nat.le_trans hsz hG49.size
         replace hBE := below_own hBE hG49 ho44 (by first | exact Nat.le_refl _ | omega) hBE.size
         replace hA := own_kept hA ho44 (by decide) hG49
         replace hAs := OwnsI.apart hAs hltR (own_mono ho44 (by omega)) hG49
         replace hszW := Nat.le_trans hszW hG49.size
         replace hns := OwnsI.apart hns hltN ho44 hG49
         replace hn := own_kept hn ho44 (by decide) hG49
         replace hszy := Nat.le_trans hszy hG49.size
         refine l_q (qmi rfl rfl) ?_
         have hbl_b1 := (hb1.ext (Ext.of_below hBE)).lt
         have hszf50 := hBE.size
         have hszz51 := hszy
         refine l_o (o_buildSlice (el := 3) (cs := [vint ((((C).getD r sv0).xs).getD c 0)]) Tryz.underlying25 el3 (by decide) (by kernel_rfl) rfl (by decide) rfl ?_)
         intro b52 w52 hzl52 hzr52 _ hb52 hE52 ho52
         have hne_b1_b52 : b1 ≠ b52 := by have := (hb1.ext (Ext.of_below hBE)).lt; omega
         have hbs_b52 : w.heap.size ≤ b52 := Nat.le_trans hsz hzl52
         have hWp_b52 := hszW
         have hbW_b52 := Nat.le_trans hszW hzl52
         replace hB := below_ext hB hE52 hsz
         replace hBE := below_ext hBE hE52 hBE.size
         replace hA := own_ext hA hE52
         replace hAs := hAs.ext hE52
         replace hszW := Nat.le_trans hszW hE52.size
         replace hns := hns.ext hE52
         replace hn := own_ext hn hE52
         replace hszy := Nat.le_trans hszy hE52.size
         replace ho49 := own_ext ho49 hE52
         replace hsz := Nat.le_trans hsz hE52.size
         replace ho52 := own_mono ho52 (show wl32.heap.size ≤ _ by omega)
         have hbl_b1 := (hb1.ext (Ext.of_below hBE)).lt
         have hszf53 := hBE.size
         have hszz54 := hszy
         refine l_o (o_append_map (f := vint) ([] ++ (((A).getD i sv0).xs)) ([(((C).getD r sv0).xs).getD c 0]) Tryz.underlying25 el3 rfl rfl ho49 rfl (Row.of_owns ho52) (fun _ => rfl) (by (try simp only [List.length_append, List.length_cons, List.length_nil, List.length_take, List.length_drop, List.length_replicate]); omega) (by omega) rfl ?_)
         intro a55 c55 w55 hz55 ho55 hG55
         replace hB := below_own hB hG55 ho49 (by omega) hsz
         replace hsz := Nat.le_trans hsz hG55.size
         replace hBE := below_own hBE hG55 ho49 (by first | exact Nat.le_refl _ | omega) hBE.size
         replace hA := own_kept hA ho49 (by decide) hG55
         replace hAs := OwnsI.apart hAs hltR (own_mono ho49 (by omega)) hG55
         replace hszW := Nat.le_trans hszW hG55.size
         replace hns := OwnsI.apart hns hltN ho49 hG55
         replace hn := own_kept hn ho49 (by decide) hG55
         replace hszy := Nat.le_trans hszy hG55.size
         have hbl_b1 := (hb1.ext (Ext.of_below hBE)).lt
         have hszf56 := hBE.size
         have hszz57 := hszy
         refine l_o (o_buildSlice (el := 25) (cs := [.slice a55 ((([] ++ (((A).getD i sv0).xs)) ++ [(((C).getD r sv0).xs).getD c 0]).length) c55]) Tryz.underlying47 el25 (by decide) (by kernel_rfl) rfl (by decide) rfl ?_)
         intro b58 w58 hzl58 hzr58 _ hb58 hE58 ho58
         have hne_b1_b58 : b1 ≠ b58 := by have := (hb1.ext (Ext.of_below hBE)).lt; omega
         have hbs_b58 : w.heap.size ≤ b58 := Nat.le_trans hsz hzl58
         have hWp_b58 := hszW
         have hbW_b58 := Nat.le_trans hszW hzl58
         replace hB := below_ext hB hE58 hsz
         replace hBE := below_ext hBE hE58 hBE.size
         replace hA := own_ext hA hE58
         replace hAs := hAs.ext hE58
         replace hszW := Nat.le_trans hszW hE58.size
         replace hns := hns.ext hE58
         replace hn := own_ext hn hE58
         replace hszy := Nat.le_trans hszy hE58.size
         replace ho55 := own_ext ho55 hE58
         replace hsz := Nat.le_trans hsz hE58.size
         replace ho58 := own_mono ho58 (show wl32.heap.size ≤ _ by omega)
         have hos58 : OwnsI w58 wl32.heap.size 3 ([⟨a55, c55, ([] ++ (((A).getD i sv0).xs)) ++ [(((C).getD r sv0).xs).getD c 0]⟩] : List SV) := OwnsI.snoc (OwnsI.nil _ _ _) (own_mono ho55 (by omega))
         have hbl_b1 := (hb1.ext (Ext.of_below hBE)).lt
         have hszf59 := hBE.size
         have hszz60 := hszy
         refine l_o (o_append_map (f := SV.enc) (M4) (([⟨a55, c55, ([] ++ (((A).getD i sv0).xs)) ++ [(((C).getD r sv0).xs).getD c 0]⟩] : List SV)) Tryz.underlying47 el25 rfl rfl hn rfl (Row.of_owns ho58) (fun _ => rfl) (by (try simp only [List.length_append, List.length_cons, List.length_nil, List.length_take, List.length_drop, List.length_replicate]); omega) (by omega) rfl ?_)
         intro a61 c61 w61 hz61 ho61 hG61
         replace hB := below_own hB hG61 hn (by omega) hsz
         replace hsz := Nat.le_trans hsz hG61.size
         replace hBE := below_own hBE hG61 hn (by first | exact Nat.le_refl _ | omega) hBE.size
         replace hA := own_apart hA hltA (own_mono hn (by omega)) hG61
         replace hAs := hAs.kept hn (by decide) hG61
         replace hszW := Nat.le_trans hszW hG61.size
         replace hns := hns.kept hn (by decide) hG61
         replace hszy := Nat.le_trans hszy hG61.size
         replace ho55 := own_kept ho55 hn (by decide) hG61
         have hos61 : OwnsI w61 wl5.heap.size 3 (M4 ++ ([⟨a55, c55, ([] ++ (((A).getD i sv0).xs)) ++ [(((C).getD r sv0).xs).getD c 0]⟩] : List SV)) := (hns).snoc (own_mono ho55 (by omega))
         refine l_q (qas rfl rfl) (l_nil (r_forget [(1, .int _ _), (2, .pointer _), (5, .slice _ _ _), (6, .slice _ _ _), (7, .int _ _), (8, .slice _ _ _), (9, .int _ _), (10, .int _ _)] ⟨rfl, rfl, rfl, rfl, rfl, rfl, rfl, rfl, trivial⟩ (fun e62 => (r_inBlock (r_region' (l_q (qmi rfl rfl) (l_q (q_add rfl rfl (by omega) rfl) (l_q (qai rfl rfl) (l_nil ?_)))))))))
         exact ih32 (c + 1, a61, c61, (M4 ++ ([⟨a55, c55, ([] ++ (((A).getD i sv0).xs)) ++ [(((C).getD r sv0).xs).getD c 0]⟩] : List SV))) _ _ ⟨⟨rfl, rfl, rfl, rfl, rfl, rfl, rfl, (vint_eq (by omega)), trivial⟩, (by omega), (by rw [List.map_append, hM4, nxK_y hcC (congrArg (fun z => List.getD z c 0) hCx) (free_1 hbr g62), List.append_assoc]; rfl), ho61, hos61, hBE, hA, hAs, hszW, hsz, hB⟩ (by first | omega | (dsimp only; omega))
        ·
         replace hc40 := dlt hc40
         have g62 := hc40
         refine l_q (qms rfl rfl) (l_q (qmi rfl rfl) ?_)
         have hr64 := hAs.rows.get (i := i) (by omega)
         obtain ⟨b63, o63, ha63, hh63⟩ := (Row.of_owns hA).at1 i ((A).getD i sv0) (getD_some (by omega))
         refine l_q (q_indexAddr1 Tryz.underlying47 Tryz.sizeOf25 rfl ha63 rfl (by omega) rfl) (l_q (q_load Tryz.isAgg25 rfl (hh63) rfl) (l_q (qmi rfl rfl) (l_o (o_call Tryz.call37 rfl (has6_ret _ _ (((A).getD i sv0).xs) _ _ hr64 (by omega)) rfl ?_))))
         rintro _ w65 ⟨rfl, hE65⟩
         replace hB := below_ext hB hE65 hsz
         replace hBE := below_ext hBE hE65 hBE.size
         replace hA := own_ext hA hE65
         replace hAs := hAs.ext hE65
         replace hszW := Nat.le_trans hszW hE65.size
         replace hns := hns.ext hE65
         replace hn := own_ext hn hE65
         replace hsz := Nat.le_trans hsz hE65.size
         refine l_q (q_not rfl rfl) (l_q (q_pick_f (v := .bool _) rfl rfl rfl) (l_nil (r_forget [(1, .int _ _), (2, .pointer _), (5, .slice _ _ _), (6, .slice _ _ _), (7, .int _ _), (8, .slice _ _ _), (9, .int _ _), (10, .int _ _), (11, .int _ _), (71, .bool _)] ⟨rfl, rfl, rfl, rfl, rfl, rfl, rfl, rfl, rfl, rfl, trivial⟩ (fun e66 => (r_cond rfl (fun hc67 => ?_) (fun hc67 => ?_))))))
         ·
          replace hc67 := nt hc67
          have g71 := hc67
          have hltN := OwnsI.under hns
          have hszy : w65.heap.size ≤ w65.heap.size := Nat.le_refl _
          have hszW2 := hszW
          have hszE2 := hBE.size
          refine r_region' (l_q (qms rfl rfl) ?_)
          have hbl_b1 := (hb1.ext (Ext.of_below hBE)).lt
          have hszf68 := hBE.size
          have hszz69 := hszy
          refine l_o (o_buildSlice (el := 3) (cs := []) Tryz.underlying25 el3 (by decide) (by kernel_rfl) rfl (by decide) rfl ?_)
          intro b70 w70 hzl70 hzr70 _ hb70 hE70 ho70
          have hne_b1_b70 : b1 ≠ b70 := by have := (hb1.ext (Ext.of_below hBE)).lt; omega
          have hbs_b70 : w.heap.size ≤ b70 := Nat.le_trans hsz hzl70
          have hWp_b70 := hszW
          have hbW_b70 := Nat.le_trans hszW hzl70
          replace hB := below_ext hB hE70 hsz
          replace hBE := below_ext hBE hE70 hBE.size
          replace hA := own_ext hA hE70
          replace hAs := hAs.ext hE70
          replace hszW := Nat.le_trans hszW hE70.size
          replace hns := hns.ext hE70
          replace hn := own_ext hn hE70
          replace hszy := Nat.le_trans hszy hE70.size
          replace hsz := Nat.le_trans hsz hE70.size
          replace ho70 := own_mono ho70 (show w65.heap.size ≤ _ by omega)
          refine l_q (qms rfl rfl) (l_q (qmi rfl rfl) ?_)
          have hr72 := hAs.rows.get (i := i) (by omega)
          obtain ⟨b71, o71, ha71, hh71⟩ := (Row.of_owns hA).at1 i ((A).getD i sv0) (getD_some (by omega))
          refine l_q (q_indexAddr1 Tryz.underlying47 Tryz.sizeOf25 rfl ha71 rfl (by omega) rfl) (l_q (q_load Tryz.isAgg25 rfl (hh71) rfl) ?_)
          have hbl_b1 := (hb1.ext (Ext.of_below hBE)).lt
          have hszf73 := hBE.size
          have hszz74 := hszy
          refine l_o (o_append_map (f := vint) ([]) (((A).getD i sv0).xs) Tryz.underlying25 el3 rfl rfl ho70 rfl hr72 (fun _ => rfl) (by (try simp only [List.length_append, List.length_cons, List.length_nil, List.length_take, List.length_drop, List.length_replicate]); omega) (by omega) rfl ?_)
          intro a75 c75 w75 hz75 ho75 hG75
          replace hB := below_own hB hG75 ho70 (by omega) hsz
          replace hsz := Nat.le_trans hsz hG75.size
          replace hBE := below_own hBE hG75 ho70 (by first | exact Nat.le_refl _ | omega) hBE.size
          replace hA := own_kept hA ho70 (by decide) hG75
          replace hAs := OwnsI.apart hAs hltR (own_mono ho70 (by omega)) hG75
          replace hszW := Nat.le_trans hszW hG75.size
          replace hns := OwnsI.apart hns hltN ho70 hG75
          replace hn := own_kept hn ho70 (by decide) hG75
          replace hszy := Nat.le_trans hszy hG75.size
          refine l_q (qmi rfl rfl) ?_
          have hbl_b1 := (hb1.ext (Ext.of_below hBE)).lt
          have hszf76 := hBE.size
          have hszz77 := hszy
          refine l_o (o_buildSlice (el := 3) (cs := [vint ((((C).getD r sv0).xs).getD c 0)]) Tryz.underlying25 el3 (by decide) (by kernel_rfl) rfl (by decide) rfl ?_)
          intro b78 w78 hzl78 hzr78 _ hb78 hE78 ho78
          have hne_b1_b78 : b1 ≠ b78 := by have := (hb1.ext (Ext.of_below hBE)).lt; omega
          have hbs_b78 : w.heap.size ≤ b78 := Nat.le_trans hsz hzl78
          have hWp_b78 := hszW
          have hbW_b78 := Nat.le_trans hszW hzl78
          replace hB := below_ext hB hE78 hsz
          replace hBE := below_ext hBE hE78 hBE.size
          replace hA := own_ext hA hE78
          replace hAs := hAs.ext hE78
          replace hszW := Nat.le_trans hszW hE78.size
          replace hns := hns.ext hE78
          replace hn := own_ext hn hE78
          replace hszy := Nat.le_trans hszy hE78.size
          replace ho75 := own_ext ho75 hE78
          replace hsz := Nat.le_trans hsz hE78.size
          replace ho78 := own_mono ho78 (show w65.heap.size ≤ _ by omega)
          have hbl_b1 := (hb1.ext (Ext.of_below hBE)).lt
          have hszf79 := hBE.size
          have hszz80 := hszy
          refine l_o (o_append_map (f := vint) ([] ++ (((A).getD i sv0).xs)) ([(((C).getD r sv0).xs).getD c 0]) Tryz.underlying25 el3 rfl rfl ho75 rfl (Row.of_owns ho78) (fun _ => rfl) (by (try simp only [List.length_append, List.length_cons, List.length_nil, List.length_take, List.length_drop, List.length_replicate]); omega) (by omega) rfl ?_)
          intro a81 c81 w81 hz81 ho81 hG81
          replace hB := below_own hB hG81 ho75 (by omega) hsz
          replace hsz := Nat.le_trans hsz hG81.size
          replace hBE := below_own hBE hG81 ho75 (by first | exact Nat.le_refl _ | omega) hBE.size
          replace hA := own_kept hA ho75 (by decide) hG81
          replace hAs := OwnsI.apart hAs hltR (own_mono ho75 (by omega)) hG81
          replace hszW := Nat.le_trans hszW hG81.size
          replace hns := OwnsI.apart hns hltN ho75 hG81
          replace hn := own_kept hn ho75 (by decide) hG81
          replace hszy := Nat.le_trans hszy hG81.size
          have hbl_b1 := (hb1.ext (Ext.of_below hBE)).lt
          have hszf82 := hBE.size
          have hszz83 := hszy
          refine l_o (o_buildSlice (el := 25) (cs := [.slice a81 ((([] ++ (((A).getD i sv0).xs)) ++ [(((C).getD r sv0).xs).getD c 0]).length) c81]) Tryz.underlying47 el25 (by decide) (by kernel_rfl) rfl (by decide) rfl ?_)
          intro b84 w84 hzl84 hzr84 _ hb84 hE84 ho84
          have hne_b1_b84 : b1 ≠ b84 := by have := (hb1.ext (Ext.of_below hBE)).lt; omega
          have hbs_b84 : w.heap.size ≤ b84 := Nat.le_trans hsz hzl84
          have hWp_b84 := hszW
          have hbW_b84 := Nat.le_trans hszW hzl84
          replace hB := below_ext hB hE84 hsz
          replace hBE := below_ext hBE hE84 hBE.size
          replace hA := own_ext hA hE84
          replace hAs := hAs.ext hE84
          replace hszW := Nat.le_trans hszW hE84.size
          replace hns := hns.ext hE84
          replace hn := own_ext hn hE84
          replace hszy := Nat.le_trans hszy hE84.size
          replace ho81 := own_ext ho81 hE84
          replace hsz := Nat.le_trans hsz hE84.size
          replace ho84 := own_mono ho84 (show w65.heap.size ≤ _ by omega)
          have hos84 : OwnsI w84 w65.heap.size 3 ([⟨a81, c81, ([] ++ (((A).getD i sv0).xs)) ++ [(((C).getD r sv0).xs).getD c 0]⟩] : List SV) := OwnsI.snoc (OwnsI.nil _ _ _) (own_mono ho81 (by omega))
          have hbl_b1 := (hb1.ext (Ext.of_below hBE)).lt
          have hszf85 := hBE.size
          have hszz86 := hszy
          refine l_o (o_append_map (f := SV.enc) (M4) (([⟨a81, c81, ([] ++ (((A).getD i sv0).xs)) ++ [(((C).getD r sv0).xs).getD c 0]⟩] : List SV)) Tryz.underlying47 el25 rfl rfl hn rfl (Row.of_owns ho84) (fun _ => rfl) (by (try simp only [List.length_append, List.length_cons, List.length_nil, List.length_take, List.length_drop, List.length_replicate]); omega) (by omega) rfl ?_)
          intro a87 c87 w87 hz87 ho87 hG87
          replace hB := below_own hB hG87 hn (by omega) hsz
          replace hsz := Nat.le_trans hsz hG87.size
          replace hBE := below_own hBE hG87 hn (by first | exact Nat.le_refl _ | omega) hBE.size
          replace hA := own_apart hA hltA (own_mono hn (by omega)) hG87
          replace hAs := hAs.kept hn (by decide) hG87
          replace hszW := Nat.le_trans hszW hG87.size
          replace hns := hns.kept hn (by decide) hG87
          replace hszy := Nat.le_trans hszy hG87.size
          replace ho81 := own_kept ho81 hn (by decide) hG87
          have hos87 : OwnsI w87 wl5.heap.size 3 (M4 ++ ([⟨a81, c81, ([] ++ (((A).getD i sv0).xs)) ++ [(((C).getD r sv0).xs).getD c 0]⟩] : List SV)) := (hns).snoc (own_mono ho81 (by omega))
          refine l_q (qas rfl rfl) (l_nil (r_forget [(1, .int _ _), (2, .pointer _), (5, .slice _ _ _), (6, .slice _ _ _), (7, .int _ _), (8, .slice _ _ _), (9, .int _ _), (10, .int _ _)] ⟨rfl, rfl, rfl, rfl, rfl, rfl, rfl, rfl, trivial⟩ (fun e88 => (r_inBlock (r_region' (l_q (qmi rfl rfl) (l_q (q_add rfl rfl (by omega) rfl) (l_q (qai rfl rfl) (l_nil ?_)))))))))
          exact ih32 (c + 1, a87, c87, (M4 ++ ([⟨a81, c81, ([] ++ (((A).getD i sv0).xs)) ++ [(((C).getD r sv0).xs).getD c 0]⟩] : List SV))) _ _ ⟨⟨rfl, rfl, rfl, rfl, rfl, rfl, rfl, (vint_eq (by omega)), trivial⟩, (by omega), (by rw [List.map_append, hM4, nxK_y hcC (congrArg (fun z => List.getD z c 0) hCx) (by rw [free_2 hbr (by omega), g71]; rfl), List.append_assoc]; rfl), ho87, hos87, hBE, hA, hAs, hszW, hsz, hB⟩ (by first | omega | (dsimp only; omega))
         ·
          replace hc67 := nf hc67
          have g71 := hc67
          refine r_skip (r_inBlock (r_region' (l_q (qmi rfl rfl) (l_q (q_add rfl rfl (by omega) rfl) (l_q (qai rfl rfl) (l_nil ?_))))))
          exact ih32 (c + 1, na4, nc4, M4) _ _ ⟨⟨rfl, rfl, rfl, rfl, rfl, rfl, rfl, (vint_eq (by omega)), trivial⟩, (by omega), (by rw [hM4, nxK_n hcC (congrArg (fun z => List.getD z c 0) hCx) (by rw [free_2 hbr (by omega), g71]; rfl)]), hn, hns, hBE, hA, hAs, hszW, hsz, hB⟩ (by first | omega | (dsimp only; omega))
       ·
        replace hc35 := dlt hc35
        have hcE : c = (cansR (lg co er se sl rl) (rl.getD r rcd0)).length := by have h : ¬ c < (C.getD r sv0).xs.length := (by omega); rw [hCx] at h; omega
        refine r_exit rfl (r_inBlock (r_region' (l_q (qmi rfl rfl) (l_q (q_add rfl rfl (by omega) rfl) (l_q (qai rfl rfl) (l_nil (r_forget [(1, .int _ _), (2, .pointer _), (5, .slice _ _ _), (6, .slice _ _ _), (7, .int _ _), (8, .slice _ _ _), (9, .int _ _)] ⟨rfl, rfl, rfl, rfl, rfl, rfl, rfl, trivial⟩ (fun e89 => ?_))))))))
        exact ih7 (i + 1, na4, nc4, M4) _ _ ⟨⟨rfl, rfl, rfl, rfl, rfl, rfl, (vint_eq (by omega)), trivial⟩, (by omega), (by rw [nx_take hiA, hM4, nx_all ho1 hpl hcE lgJ]), hn, hns, hBE, hA, hAs, hszW, hsz, hB⟩ (by first | omega | (dsimp only; omega))
    ·
     replace hc8 := dlt hc8
     refine r_exit rfl (r_region' (l_q (qms rfl rfl) (l_q (qas rfl rfl) (l_nil (r_inBlock (r_region' (l_q (qmi rfl rfl) (l_q (q_add rfl rfl (by omega) rfl) (l_q (qai rfl rfl) (l_nil ?_))))))))))
     exact ih5 (r + 1, na, nc, M) _ _ ⟨⟨rfl, rfl, rfl, rfl, (vint_eq (by omega)), trivial⟩, (by omega), (by rw [all_step, ← hA_, hM, List.take_of_length_le (by rw [List.length_map]; omega)]), (own_mono hn (by omega)), (OwnsI.mono hns (by omega)), hBE, hsz, hB⟩ (by first | omega | (dsimp only; omega))
  ·
   replace hc6 := dlt hc6
   refine r_exit rfl (r_seq (r_region' (l_q (qms rfl rfl) (l_q (qas rfl rfl) (l_nil (r_forget [(4, .slice _ _ _)] ⟨rfl, trivial⟩ (fun e90 => (r_ret_ (vs := [.slice _ _ _]) rfl Tryz.func76 rfl (.nil _) ⟨rfl, trivial⟩ ?_))))))))
   obtain rfl : r = rl.length := by omega
   exact ⟨aa, ac, A, rfl, Row.of_owns hA, hAs.rows, hA_, Ext.of_below hB⟩
end Go.Proofs.YtekkdhpgcilpdaaGreat
