/- Contracts. -/
import Derived.Test.YtekkdhpgcilpdaaGreatM12
set_option linter.unusedVariables false
set_option linter.unusedSimpArgs false
namespace Go.Proofs.YtekkdhpgcilpdaaGreat
open Go Go.RowKit Go.Gv Go.Fl
section
variable {co : List Sg} {er : Int} {se : List Int} {sl sl2 : List SN} {rl : List RC} {l : Lg} {n : Int}
theorem lg_same (h : sl2.map SN.pn = sl.map SN.pn) : lg co er se sl2 rl = lg co er se sl rl := by unfold lg; rw [h]
theorem big_same (h : sl2.map SN.pn = sl.map SN.pn) (hb : LgBig co er se sl rl) : LgBig co er se sl2 rl := by
  obtain ⟨h1, h2, h3, ⟨h4, h5⟩, h6⟩ := hb
  refine ⟨h1, h2, h3, ⟨?_, fun x hx => ?_⟩, h6⟩
  · have := congrArg List.length h
    rw [List.length_map, List.length_map] at this
    omega
  · have h7 : x.pn ∈ sl.map SN.pn := by rw [← h]; exact List.mem_map.2 ⟨x, hx, rfl⟩
    obtain ⟨y, hy, he⟩ := List.mem_map.1 h7
    have h8 : y.xs = x.xs := congrArg Sn.xs he
    rw [← h8]; exact h5 y hy
end



end Go.Proofs.YtekkdhpgcilpdaaGreat
set_option linter.unusedVariables false
set_option linter.unusedSimpArgs false
namespace Go.Proofs.YtekkdhpgcilpdaaGreat
open Go Go.RowKit Go.Gv Go.Fl
section
variable {l : Lg} {r : Nat}
theorem asg_len {a : List Int} (h : a ∈ asgM l noB) : a.length = l.R.length := by have := all_len h; simpa using this
theorem asg_none (h0 : faultM l = 0) (h : asgM l noB = []) : assignM l = ([], 11) := by
  have hr := (lg_ok h0).2.2.1
  unfold assignM
  rw [if_neg (fun h3 => h3 h0), if_pos]
  have h1 := few_never (can := canB l) (m := l.J.length) (out := noB) (k := l.R.length) (p := []) (by omega)
  have h2 := few_rng (can := canB l) (m := l.J.length) (out := noB) (k := l.R.length) (p := []) (by omega)
  by_cases h3 : fewF (canB l) l.J.length noB l.R.length [] < 1024
  · exact absurd h (h1.1 h3)
  · omega
theorem asg_some (h0 : faultM l = 0) (h : asgM l noB ≠ []) : assignM l = (bestM l, 0) ∧ bestM l ∈ asgM l noB := by
  have hr := (lg_ok h0).2.2.1
  have h1 := (few_never (can := canB l) (m := l.J.length) (out := noB) (k := l.R.length) (p := []) (by omega)).2 h
  refine ⟨?_, ?_⟩
  · unfold assignM
    rw [if_neg (fun h3 => h3 h0), if_neg (by omega)]
  · unfold bestM
    exact (ext_spec (by omega) rfl h1).1
theorem vd_err (h0 : faultM l = 0) (h : ¬ (verdW l).2 = 0) : verdW l = ([], 11) ∧ assignM l = ([], 11) := by
  by_cases ha : (List.range l.R.length).any (fun r => !(ownV l r || falV l r)) = true
  · obtain ⟨r, hr, h2⟩ := List.any_eq_true.1 ha
    have hr := List.mem_range.1 hr
    have h3 : ownV l r = false ∧ falV l r = false := by simpa using h2
    exact ⟨verdW_11 h0 hr h3.1 h3.2, asg_none h0 ((poss_none hr).2 h3)⟩
  · exfalso; apply h; unfold verdW; rw [if_neg (fun h3 => h3 h0), if_neg ha]
theorem vd_ok (h0 : faultM l = 0) (h : (verdW l).2 = 0) : verdW l = ((List.range l.R.length).map (verdV l), 0) ∧ asgM l noB ≠ [] ∧ ∀ r, r < l.R.length → (ownV l r || falV l r) = true := by
  by_cases ha : (List.range l.R.length).any (fun r => !(ownV l r || falV l r)) = true
  · exfalso; unfold verdW at h; rw [if_neg (fun h3 => h3 h0), if_pos ha] at h; cases h
  · have h1 : ∀ r, r < l.R.length → (ownV l r || falV l r) = true := fun r hr => by
      by_cases h2 : (ownV l r || falV l r) = true
      · exact h2
      · exact absurd (List.any_eq_true.2 ⟨r, List.mem_range.2 hr, by simpa using h2⟩) ha
    refine ⟨?_, fun he => ?_, h1⟩
    · unfold verdW; rw [if_neg (fun h3 => h3 h0), if_neg ha]
    · by_cases hz : l.R.length = 0
      · unfold asgM at he; rw [hz] at he; cases he
      · obtain ⟨h2, h3⟩ := (poss_none (l := l) (r := 0) (by omega)).1 he
        have := h1 0 (by omega)
        rw [h2, h3] at this; cases this
end
theorem has_yes {xs : List Int} {n : Int} {k : Nat} (h : k < xs.length) (he : xs.getD k 0 = n) : hasI xs n = true := List.any_eq_true.2 ⟨_, getD_lt (d := 0) h, decide_eq_true he⟩
theorem has_no {xs : List Int} {n : Int} (h : ∀ i, i < xs.length → xs.getD i 0 ≠ n) : hasI xs n = false := List.any_eq_false.2 (fun x hx => by
  obtain ⟨i, hi, rfl⟩ := List.mem_iff_getElem.1 hx
  have := h i hi
  rw [List.getD_eq_getElem?_getD, List.getElem?_eq_getElem hi] at this
  simpa using this)


theorem has6_ret (xa : Option Addr) (xc : Nat) (xs : List Int) (n : Int) (w : World) (hx : Row w xa xs.length xc 1 (xs.map vint)) (hxn : xs.length ≤ 2097152) : Ret Tryz.prog 37 [.slice xa xs.length xc, vint n] w (fun v w' => v = .bool (hasI xs n) ∧ Ext w w') := by
 have hB := Below.refl w.heap.size w
 have hsz : w.heap.size ≤ w.heap.size := Nat.le_refl _
 refine ret_of_runs (args := [_, _]) Tryz.func37 rfl (Nat.le_of_ble_eq_true rfl) (by kernel_rfl) (r_seq (r_region' (l_q (qab rfl rfl) (l_nil (r_seq (r_seq (r_region' (l_q (qai rfl rfl) (l_nil (r_block (r_rounds (α := Nat) (fun k e wl => Knows e [(0, .slice xa xs.length xc), (1, vint n), (5, vint (k : Int))] ∧ (k ≤ xs.length) ∧ (∀ i, i < k → xs.getD i 0 ≠ n) ∧ (w.heap.size ≤ wl.heap.size) ∧ (Below w.heap.size w wl)) (fun k => xs.length - k) 0 ?_ ?_)))))))))))
 ·
  exact ⟨⟨rfl, rfl, rfl, trivial⟩, (Nat.zero_le _), (fun i hi => absurd hi (Nat.not_lt_zero _)), hsz, hB⟩
 ·
  rintro k el1 wl1 ⟨hkn, hkk, hno, hsz, hB⟩ ih1
  obtain ⟨e1, rfl⟩ := knows_env hkn
  refine r_seq (r_seq (r_region' (l_q (qmi rfl rfl) (l_q (qms rfl rfl) (l_q (q_len rfl Tryz.underlying25 rfl rfl) (l_q (q_lss rfl rfl rfl) (l_nil (r_cond rfl (fun hc2 => ?_) (fun hc2 => ?_)))))))))
  ·
   replace hc2 := dt hc2
   have hkx : k < xs.length := by omega
   refine r_skip (r_seq (r_block (r_seq (r_region' (l_q (qms rfl rfl) (l_q (qmi rfl rfl) ?_))))))
   obtain ⟨b3, o3, ha3, hh3⟩ := (hx.below hB).at1 k ((xs).getD k 0) (getD_some (by omega))
   refine l_q (q_indexAddr1 Tryz.underlying25 Tryz.sizeOf3 rfl ha3 rfl (by omega) rfl) (l_q (q_load Tryz.isAgg3 rfl (hh3) rfl) (l_q (qmi rfl rfl) (l_q (q_eql rfl rfl rfl) (l_nil (r_cond rfl (fun hc4 => ?_) (fun hc4 => ?_))))))
   ·
    replace hc4 := dt hc4
    have g17 := hc4
    refine r_seq (r_region' (l_q (qab rfl rfl) (l_nil (r_forget [(4, .bool _)] ⟨rfl, trivial⟩ (fun e5 => (r_ret_ (vs := [.bool _]) rfl Tryz.func37 rfl (.nil _) ⟨rfl, trivial⟩ ?_))))))
    exact ⟨vbool_eq (has_yes hkx g17).symm, Ext.of_below hB⟩
   ·
    replace hc4 := df hc4
    have g17 := hc4
    refine r_skip (r_inBlock (r_region' (l_q (qmi rfl rfl) (l_q (q_add rfl rfl (by omega) rfl) (l_q (qai rfl rfl) (l_nil (r_forget [(0, .slice _ _ _), (1, .int _ _), (5, .int _ _)] ⟨rfl, rfl, rfl, trivial⟩ (fun e6 => ?_))))))))
    exact ih1 (k + 1) _ _ ⟨⟨rfl, rfl, (vint_eq (by omega)), trivial⟩, (by omega), (fun i hi => by rcases Nat.lt_succ_iff_lt_or_eq.1 hi with h | h; exact hno i h; subst h; exact g17), hsz, hB⟩ (by first | omega | (dsimp only; omega))
  ·
   replace hc2 := dlt hc2
   refine r_exit rfl (r_seq (r_region' (l_q (qab rfl rfl) (l_nil (r_ret_ (vs := [.bool _]) rfl Tryz.func37 rfl (.nil _) ⟨rfl, trivial⟩ ?_)))))
   exact ⟨vbool_eq (has_no (fun i hi => hno i (by omega))).symm, Ext.of_below hB⟩
end Go.Proofs.YtekkdhpgcilpdaaGreat
set_option linter.unusedVariables false
set_option linter.unusedSimpArgs false
namespace Go.Proofs.YtekkdhpgcilpdaaGreat
open Go Go.RowKit Go.Gv Go.Fl
def wr (n : Int) : Int := IntKind.i64.wrap n
section
variable {co : List Sg} {er er2 : Int} {se : List Int} {sl : List SN} {rl : List RC} {k : Nat} {b : Int} {r : RC}
end


end Go.Proofs.YtekkdhpgcilpdaaGreat
set_option linter.unusedVariables false
set_option linter.unusedSimpArgs false
namespace Go.Proofs.YtekkdhpgcilpdaaGreat
open Go Go.RowKit Go.Gv Go.Fl

section
variable {can can' : Nat → Int → Bool} {m k : Nat} {out out' : Nat → Bool} {a : List Int}
end
section
variable {l x : Lg} {more : RC} {r : Nat} {b : Int}
end
section
variable {l x : Lg}
theorem leave_nil (hn : l.R.length ≤ 1000) : leaveM l = [] ↔ asgM l noB ≠ [] := by
  obtain ⟨s, h1, h2, h3, h4⟩ := leave_spec (Q := leavQ (canB l) l.J.length l.R.length) (n := l.R.length) leavQ_all
  have he : leaveM l = s := by unfold leaveM; rw [h1]; rfl
  rw [he]
  constructor
  · rintro rfl
    exact (leavQ_iff hn).1 h3
  · intro ha
    have h5 := h4 [] (ris_iff.2 ⟨List.Pairwise.nil, fun x hx => by simp at hx⟩) ((leavQ_iff hn).2 ha)
    rw [← Bool.not_eq_true, ltL_lex] at h5
    cases s with
    | nil => rfl
    | cons y t => exact absurd (.inl (by simp)) h5
end



end Go.Proofs.YtekkdhpgcilpdaaGreat
