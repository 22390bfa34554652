/- Contracts. -/
import Derived.Test.YtekkdhpgcilpdaaGreatM19
set_option linter.unusedVariables false
set_option linter.unusedSimpArgs false
namespace Go.Proofs.YtekkdhpgcilpdaaGreat
open Go Go.RowKit Go.Gv Go.Fl
/-! ### Earlier seen, later asked, never seen -/
section
variable {l x : Lg} {b b2 : Int} {r : RC} {k : Nat}
/-- x sees all that l sees, and as early -/
def SeesUp (l x : Lg) : Prop := x.co = l.co ∧ x.er = l.er ∧ x.J = l.J ∧ x.R = l.R ∧ ∀ s b, heardB l.se s b = true → heardB x.se s b = true
theorem see_texts (h : SeesUp l x) {t : List Int} (ht : t ∈ textsL l b) : t ∈ textsL x b := by
  rw [mem_texts] at ht ⊢
  obtain ⟨s, h1, h2, h3⟩ := ht
  exact ⟨s, by rw [h.2.2.1]; exact h1, h.2.2.2.2 s b h2, h3⟩
theorem see_reads (h : SeesUp l x) {t : List Int} {s : Sg} : readsB x t s = readsB l t s := by unfold readsB; rw [h.1, h.2.1]
theorem see_fal (h : SeesUp l x) (hf : falB l r = true) : falB x r = true := by
  unfold falB at hf ⊢
  obtain ⟨t, h1, h2⟩ := List.any_eq_true.1 hf
  refine List.any_eq_true.2 ⟨t, ?_, by rw [see_reads h]; exact h2⟩
  rw [mem_parts] at h1 ⊢
  obtain ⟨s, g1, g2, g3⟩ := h1
  exact ⟨s, by rw [h.2.2.1]; exact g1, h.2.2.2.2 s _ g2, g3⟩
theorem see_can (h : SeesUp l x) (hc : canB l k b = true) : canB x k b = true := by
  unfold canB at hc ⊢
  rw [h.2.2.1, h.2.2.2.1]
  split at hc
  · rename_i h3; rw [if_pos h3]; exact see_fal h hc
  · rename_i h3; rw [if_neg h3]
    unfold ownB at hc ⊢
    rw [see_reads h]; exact hc
theorem see_leave (h : SeesUp l x) (hn : l.R.length ≤ 1000) : (leaveM x).length ≤ (leaveM l).length := by
  have h1 := leave_is (l := x)
  rw [h.2.2.1, h.2.2.2.1] at h1
  exact leave_mono hn (fun r b _ _ hc => see_can h hc) leave_is h1
theorem later_texts (h : b ≤ b2) {t : List Int} (ht : t ∈ textsL l b) : t ∈ textsL l b2 := by
  rw [mem_texts] at ht ⊢
  obtain ⟨s, h1, h2, h3⟩ := ht
  refine ⟨s, h1, ?_, h3⟩
  unfold heardB at h2 ⊢
  rw [Bool.and_eq_true, Bool.and_eq_true, decide_eq_true_eq, decide_eq_true_eq] at h2 ⊢
  exact ⟨h2.1, h2.2.1, by omega⟩
/-- a log with other hours -/
def withS (l : Lg) (se : List Int) : Lg := ⟨l.co, l.er, se, l.J, l.R⟩
theorem withS_ok {se : List Int} (h : faultM l = 0) (hl : se.length = l.se.length) (hs : ∀ n ∈ se, -1 ≤ n ∧ n ≤ 23) : faultM (withS l se) = 0 := by
  unfold faultM at h
  split at h
  · cases h
  · rename_i h1
    split at h
    · rename_i h2; exact absurd h h2
    · rename_i h2
      split at h
      · rename_i h3
        unfold faultM withS
        dsimp only
        rw [hl, if_neg h1, if_neg h2, if_pos]
        simp only [Bool.and_eq_true] at h3 ⊢
        exact ⟨⟨h3.1.1, List.all_eq_true.2 (fun n hn => by unfold okSee; rw [Bool.and_eq_true, decide_eq_true_eq, decide_eq_true_eq]; exact hs n hn)⟩, h3.2⟩
      · cases h
theorem blind_texts {n : Nat} (hn : ∀ s ∈ l.J, s.st.toNat < n) : textsL (withS l (List.replicate n (-1))) b = [] := by
  rw [List.eq_nil_iff_forall_not_mem]
  intro t ht
  obtain ⟨s, h1, h2, _⟩ := mem_texts.1 ht
  unfold heardB withS at h2
  rw [Bool.and_eq_true, Bool.and_eq_true, decide_eq_true_eq, decide_eq_true_eq, Bool.not_eq_true', decide_eq_false_iff_not] at h2
  dsimp only at h2
  rw [List.getD_eq_getElem?_getD, List.getElem?_replicate, if_pos (hn s h1)] at h2
  exact h2.1 rfl
theorem blind_fal {n : Nat} (hn : ∀ s ∈ l.J, s.st.toNat < n) : falB (withS l (List.replicate n (-1))) r = false := by
  rw [← mask_some]
  unfold maskO
  rw [blind_texts hn]; rfl
theorem put_see {k : Nat} {v : Int} (hv : l.se.getD k 0 ≠ -1 → v ≠ -1 ∧ v ≤ l.se.getD k 0) (hk : k < l.se.length) : SeesUp l (withS l (l.se.set k v)) := by
  refine ⟨rfl, rfl, rfl, rfl, fun s b h => ?_⟩
  unfold heardB at h ⊢
  unfold withS
  dsimp only
  by_cases hs : s.st.toNat = k
  · rw [hs] at h ⊢
    have he : (l.se.set k v).getD k 0 = v := by rw [List.getD_eq_getElem?_getD, List.getElem?_set_self hk]; rfl
    rw [he]
    rw [Bool.and_eq_true, Bool.and_eq_true, decide_eq_true_eq, decide_eq_true_eq, Bool.not_eq_true', decide_eq_false_iff_not] at h ⊢
    obtain ⟨h1, h2⟩ := hv h.1
    exact ⟨h1, by omega, h.2.2⟩
  · have he : (l.se.set k v).getD s.st.toNat 0 = l.se.getD s.st.toNat 0 := by rw [List.getD_eq_getElem?_getD, List.getElem?_set_ne (fun e => hs e.symm), ← List.getD_eq_getElem?_getD]
    rw [he]; exact h
end
/-! ### Other orders -/
section
variable {l : Lg} {i r : Nat} {fal : Bool}
end
/-! ### Parts -/
/-! ### Lists in lists -/
def foundK (t : List Int) (b : List (List Int)) (k : Nat) : Bool := (List.range k).any (fun j => decide (t = b.getD j []))
def insideB (a b : List (List Int)) : Bool := a.all (fun x => foundK x b b.length)
section
variable {t : List Int} {a b : List (List Int)} {k i : Nat} {L M : List SV}
theorem found_succ : foundK t b (k + 1) = (foundK t b k || decide (t = b.getD k [])) := by unfold foundK; rw [List.range_succ, List.any_append]; simp
theorem found_iff : foundK t b b.length = true ↔ t ∈ b := by
  unfold foundK
  rw [List.any_eq_true]
  constructor
  · rintro ⟨j, hj, h⟩
    rw [of_decide_eq_true h]
    exact getD_lt (List.mem_range.1 hj)
  · intro h
    obtain ⟨j, hj, he⟩ := List.mem_iff_getElem.1 h
    exact ⟨j, List.mem_range.2 hj, decide_eq_true (by rw [List.getD_eq_getElem?_getD, List.getElem?_eq_getElem hj]; exact he.symm)⟩
theorem inside_iff : insideB a b = true ↔ ∀ t ∈ a, t ∈ b := by
  unfold insideB
  rw [List.all_eq_true]
  exact forall_congr' fun t => forall_congr' fun _ => found_iff
theorem svx_getD (L : List SV) (j : Nat) : (L.map (·.xs)).getD j [] = (L.getD j sv0).xs := by
  rw [List.getD_eq_getElem?_getD, List.getD_eq_getElem?_getD, List.getElem?_map]
  cases L[j]? <;> rfl
theorem inside_yes (h : ∀ j, j < L.length → foundK (L.getD j sv0).xs (M.map (·.xs)) M.length = true) : insideB (L.map (·.xs)) (M.map (·.xs)) = true := by
  unfold insideB
  rw [List.length_map]
  refine all_getD (d := []) (fun j hj => ?_)
  rw [svx_getD]
  exact h j (by rwa [List.length_map] at hj)
theorem inside_no (hi : i < L.length) (h : foundK (L.getD i sv0).xs (M.map (·.xs)) M.length = false) : insideB (L.map (·.xs)) (M.map (·.xs)) = false := by
  unfold insideB
  rw [List.length_map]
  exact all_bad (d := []) (k := i) (by rw [List.length_map]; exact hi) (by rw [svx_getD]; exact h)
end
section
variable {co : List Sg} {er : Int} {se : List Int} {sl : List SN} {rl : List RC} {hr : Int} {t : List Int} {k : Nat} {D : List SV}
end


theorem inside6_ret (la : Option Addr) (lc : Nat) (L : List SV) (ma : Option Addr) (mc : Nat) (M : List SV) (w : World) (hl : Row w la L.length lc 1 (L.map SV.enc)) (hlr : RowsI w L) (hln : L.length ≤ 2097152) (hle : ∀ s ∈ L, s.xs.length ≤ 2097152) (hm : Row w ma M.length mc 1 (M.map SV.enc)) (hmr : RowsI w M) (hmn : M.length ≤ 2097152) (hme : ∀ s ∈ M, s.xs.length ≤ 2097152) : Ret Tryz.prog 40 [.slice la L.length lc, .slice ma M.length mc] w (fun v w' => v = .bool (insideB (L.map (·.xs)) (M.map (·.xs))) ∧ Ext w w') := by
 have hB := Below.refl w.heap.size w
 have hsz : w.heap.size ≤ w.heap.size := Nat.le_refl _
 refine ret_of_runs (args := [_, _]) Tryz.func40 rfl (Nat.le_of_ble_eq_true rfl) (by kernel_rfl) (r_seq (r_region' (l_q (qab rfl rfl) (l_nil (r_seq (r_seq (r_region' (l_q (qai rfl rfl) (l_nil (r_block (r_rounds (α := Nat) (fun i e wl => Knows e [(0, .slice la L.length lc), (1, .slice ma M.length mc), (5, vint (i : Int))] ∧ (i ≤ L.length) ∧ (∀ j, j < i → foundK (L.getD j sv0).xs (M.map (·.xs)) M.length = true) ∧ (w.heap.size ≤ wl.heap.size) ∧ (Below w.heap.size w wl)) (fun i => L.length - i) 0 ?_ ?_)))))))))))
 ·
  exact ⟨⟨rfl, rfl, rfl, trivial⟩, (Nat.zero_le _), (fun i hi => absurd hi (Nat.not_lt_zero _)), hsz, hB⟩
 ·
  rintro i el1 wl1 ⟨hkn, hki, hq, hsz, hB⟩ ih1
  obtain ⟨e1, rfl⟩ := knows_env hkn
  refine r_seq (r_seq (r_region' (l_q (qmi rfl rfl) (l_q (qms rfl rfl) (l_q (q_len rfl Tryz.underlying47 rfl rfl) (l_q (q_lss rfl rfl rfl) (l_nil (r_cond rfl (fun hc2 => ?_) (fun hc2 => ?_)))))))))
  ·
   replace hc2 := dt hc2
   have hil : i < L.length := by omega
   have hel := hle _ (getD_lt (d := sv0) hil)
   refine r_skip (r_seq (r_block (r_seq (r_region' (l_q (qab rfl rfl) (l_nil (r_seq (r_seq (r_region' (l_q (qai rfl rfl) (l_nil (r_block (r_rounds (α := Nat × Bool) (fun ⟨k, fb⟩ e wl => Knows e [(0, .slice la L.length lc), (1, .slice ma M.length mc), (5, vint (i : Int)), (6, .bool fb), (7, vint (k : Int))] ∧ (k ≤ M.length) ∧ (fb = foundK (L.getD i sv0).xs (M.map (·.xs)) k) ∧ (w.heap.size ≤ wl.heap.size) ∧ (Below w.heap.size w wl)) (fun ⟨k, fb⟩ => M.length - k) (0, false) ?_ ?_)))))))))))))
   ·
    exact ⟨⟨rfl, rfl, rfl, rfl, rfl, trivial⟩, (Nat.zero_le _), rfl, hsz, hB⟩
   ·
    rintro ⟨k, fb⟩ el3 wl3 ⟨hkn, hkk, hf, hsz, hB⟩ ih3
    obtain ⟨e3, rfl⟩ := knows_env hkn
    refine r_seq (r_seq (r_region' (l_q (qmi rfl rfl) (l_q (qms rfl rfl) (l_q (q_len rfl Tryz.underlying47 rfl rfl) (l_q (q_lss rfl rfl rfl) (l_nil (r_cond rfl (fun hc4 => ?_) (fun hc4 => ?_)))))))))
    ·
     replace hc4 := dt hc4
     have hkm : k < M.length := by omega
     have hem := hme _ (getD_lt (d := sv0) hkm)
     refine r_skip (r_seq (r_block (r_draw ext_refl' ext_trans' [0, 1, 2, 3, 4, 5, 6, 7, 8, 9, 10, 11, 12] [10] 9 (by kernel_rfl) (by kernel_rfl) ?_)))
     intro w5 _ hE5
     replace hB := below_ext hB hE5 hsz
     replace hsz := Nat.le_trans hsz hE5.size
     refine m_q rfl rfl (fun w' hC' => qmb rfl rfl) (m_q rfl rfl (fun w' hC' => qmb rfl rfl) (m_part 21 rfl (fun hc6 => ?_) (fun hc6 => ?_)))
     ·
      have g21 := hc6
      refine m_q rfl rfl (fun w' hC' => q_skip rfl) (m_q rfl rfl (fun w' hC' => q_skip rfl) (m_q rfl rfl (fun w' hC' => q_skip rfl) (m_q rfl rfl (fun w' hC' => q_skip rfl) (m_q rfl rfl (fun w' hC' => q_skip rfl) (m_q rfl rfl (fun w' hC' => q_skip rfl) (m_q rfl rfl (fun w' hC' => q_skip rfl) (m_q rfl rfl (fun w' hC' => q_skip rfl) (m_o rfl rfl ((q_skip rfl).eff ⟨Ext.refl _, ?_⟩)))))))))
      refine m_q rfl rfl (fun w' hC' => q_pick_t (v := .bool _) rfl rfl rfl) (m_q rfl rfl (fun w' hC' => qab rfl rfl) (m_nil (r_forget [(0, .slice _ _ _), (1, .slice _ _ _), (5, .int _ _), (6, .bool _), (7, .int _ _)] ⟨rfl, rfl, rfl, rfl, rfl, trivial⟩ (fun e7 => (r_inBlock (r_region' (l_q (qmi rfl rfl) (l_q (q_add rfl rfl (by omega) rfl) (l_q (qai rfl rfl) (l_nil ?_))))))))))
      exact ih3 (k + 1, true) _ _ ⟨⟨rfl, rfl, rfl, rfl, (vint_eq (by omega)), trivial⟩, (by omega), (by rw [found_succ, ← hf, g21, svx_getD]; rfl), hsz, hB⟩ (by first | omega | (dsimp only; omega))
     ·
      have g21 := hc6
      refine m_q rfl rfl (fun w' hC' => qms rfl rfl) (m_q rfl rfl (fun w' hC' => qmi rfl rfl) ?_)
      have hr9 := (hlr.below hB).get (i := i) (by omega)
      obtain ⟨b8, o8, ha8, hh8⟩ := (hl.below hB).at1 i ((L).getD i sv0) (getD_some (by omega))
      refine m_q rfl rfl (fun w' hC' => q_indexAddr1 Tryz.underlying47 Tryz.sizeOf25 rfl ha8 rfl (by omega) rfl) (m_q rfl rfl (fun w' hC' => q_load Tryz.isAgg25 rfl ((hh8.ext hC')) rfl) (m_q rfl rfl (fun w' hC' => qms rfl rfl) (m_q rfl rfl (fun w' hC' => qmi rfl rfl) ?_)))
      have hr11 := (hmr.below hB).get (i := k) (by omega)
      obtain ⟨b10, o10, ha10, hh10⟩ := (hm.below hB).at1 k ((M).getD k sv0) (getD_some (by omega))
      refine m_q rfl rfl (fun w' hC' => q_indexAddr1 Tryz.underlying47 Tryz.sizeOf25 rfl ha10 rfl (by omega) rfl) (m_q rfl rfl (fun w' hC' => q_load Tryz.isAgg25 rfl ((hh10.ext hC')) rfl) (m_o rfl rfl (o_call Tryz.call24 rfl (same_ret _ _ (((L).getD i sv0).xs) _ _ (((M).getD k sv0).xs) _ hr9 (by omega) hr11 (by omega)) rfl ?_)))
      rintro _ w12 ⟨rfl, hE12⟩
      refine ⟨hE12, ?_⟩
      replace hB := below_ext hB hE12 hsz
      replace hsz := Nat.le_trans hsz hE12.size
      refine m_q rfl rfl (fun w' hC' => q_pick_f (v := .bool _) rfl rfl rfl) (m_q rfl rfl (fun w' hC' => qab rfl rfl) (m_nil (r_forget [(0, .slice _ _ _), (1, .slice _ _ _), (5, .int _ _), (6, .bool _), (7, .int _ _)] ⟨rfl, rfl, rfl, rfl, rfl, trivial⟩ (fun e13 => (r_inBlock (r_region' (l_q (qmi rfl rfl) (l_q (q_add rfl rfl (by omega) rfl) (l_q (qai rfl rfl) (l_nil ?_))))))))))
      exact ih3 (k + 1, decide ((((L).getD i sv0).xs) = (((M).getD k sv0).xs))) _ _ ⟨⟨rfl, rfl, rfl, rfl, (vint_eq (by omega)), trivial⟩, (by omega), (by rw [found_succ, ← hf, g21, svx_getD]; rfl), hsz, hB⟩ (by first | omega | (dsimp only; omega))
    ·
     replace hc4 := dlt hc4
     refine r_exit rfl (r_seq (r_region' (l_q (qmb rfl rfl) (l_q (q_not rfl rfl) (l_nil (r_cond rfl (fun hc14 => ?_) (fun hc14 => ?_)))))))
     ·
      replace hc14 := nt hc14
      have g33 : fb = false := by simpa using hc14
      refine r_seq (r_region' (l_q (qab rfl rfl) (l_nil (r_forget [(4, .bool _)] ⟨rfl, trivial⟩ (fun e15 => (r_ret_ (vs := [.bool _]) rfl Tryz.func40 rfl (.nil _) ⟨rfl, trivial⟩ ?_))))))
      exact ⟨vbool_eq (inside_no hil (by rw [← show k = M.length by omega, ← hf]; exact g33)).symm, Ext.of_below hB⟩
     ·
      replace hc14 := nf hc14
      have g33 : fb = true := by simpa using hc14
      refine r_skip (r_inBlock (r_region' (l_q (qmi rfl rfl) (l_q (q_add rfl rfl (by omega) rfl) (l_q (qai rfl rfl) (l_nil (r_forget [(0, .slice _ _ _), (1, .slice _ _ _), (5, .int _ _)] ⟨rfl, rfl, rfl, trivial⟩ (fun e16 => ?_))))))))
      exact ih1 (i + 1) _ _ ⟨⟨rfl, rfl, (vint_eq (by omega)), trivial⟩, (by omega), (fun j hj => by rcases Nat.lt_succ_iff_lt_or_eq.1 hj with h | h; exact hq j h; subst h; rw [← show k = M.length by omega, ← hf]; exact g33), hsz, hB⟩ (by first | omega | (dsimp only; omega))
  ·
   replace hc2 := dlt hc2
   refine r_exit rfl (r_seq (r_region' (l_q (qab rfl rfl) (l_nil (r_ret_ (vs := [.bool _]) rfl Tryz.func40 rfl (.nil _) ⟨rfl, trivial⟩ ?_)))))
   exact ⟨vbool_eq (inside_yes (fun j hj => hq j (by omega))).symm, Ext.of_below hB⟩
end Go.Proofs.YtekkdhpgcilpdaaGreat
