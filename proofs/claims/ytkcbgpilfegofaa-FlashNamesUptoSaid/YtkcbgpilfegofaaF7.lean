/- Contracts. -/
import Derived.Test.YtkcbgpilfegofaaF6
set_option linter.unusedVariables false
set_option linter.unusedSimpArgs false
namespace Go.Proofs.Ytkcbgpilfegofaa
open Go Go.RowKit Go.Gv Go.Fl

def part (t : List Int) (f m : Nat) : List Int := (t.drop f).take m
theorem part_le {t : List Int} {f m : Nat} (h : m ≤ 9) : (part t f m).length ≤ 9 := by rw [part, List.length_take]; omega
theorem part_step {xs : List Int} {f k : Nat} (hf : f ≤ k) (hk : k < xs.length) : (xs.drop f).take (k - f) ++ [xs.getD k 0] = (xs.drop f).take (k + 1 - f) := by
  have h : k + 1 - f = (k - f) + 1 := by omega
  rw [h, List.take_add_one, List.getElem?_drop, show f + (k - f) = k by omega, List.getElem?_eq_getElem hk, List.getD_eq_getElem?_getD, List.getElem?_eq_getElem hk]; rfl
theorem part_end {xs : List Int} {f m k : Nat} (hf : f ≤ k) (h1 : k ≤ f + m) (h2 : k = f + m ∨ xs.length ≤ k) : (xs.drop f).take (k - f) = part xs f m := by
  unfold part
  rcases h2 with h | h
  · rw [h, Nat.add_sub_cancel_left]
  · rw [List.take_of_length_le (by rw [List.length_drop]; omega), List.take_of_length_le (by rw [List.length_drop]; omega)]
def decidesB (T : List (List Int)) (f m : Nat) : Bool := decide ((T.map fun t => part t f m).Nodup)
theorem nodup_iff {L : List SV} {f m : Nat} : decidesB (L.map (·.xs)) f m = true ↔ ∀ i, i < L.length → ∀ j, j < i → part (L.getD i sv0).xs f m ≠ part (L.getD j sv0).xs f m := by
  unfold decidesB
  rw [decide_eq_true_eq, List.Nodup, List.pairwise_iff_getElem]
  have hg : ∀ i (hi : i < L.length), L.getD i sv0 = L[i] := fun i hi => by rw [List.getD_eq_getElem?_getD, List.getElem?_eq_getElem hi]; rfl
  constructor
  · intro h i hi j hj
    have := h j i (by simp; omega) (by simpa using hi) hj
    rw [hg i hi, hg j (by omega)]
    intro he
    apply this
    simp only [List.getElem_map]
    exact he.symm
  · intro h i j hi hj hij
    have hi' : i < L.length := by simpa using hi
    have hj' : j < L.length := by simpa using hj
    have := h j hj' i hij
    rw [hg i hi', hg j hj'] at this
    simp only [List.getElem_map]
    exact fun he => this he.symm
theorem dec_bad {L : List SV} {f m i j : Nat} (hi : i < L.length) (hj : j < i) (h : part (L.getD i sv0).xs f m = part (L.getD j sv0).xs f m) : decidesB (L.map (·.xs)) f m = false := by
  cases hd : decidesB (L.map (·.xs)) f m with
  | false => rfl
  | true => exact absurd h (nodup_iff.1 hd i hi j hj)
theorem dec_good {L : List SV} {f m : Nat} (h : ∀ i, i < L.length → ∀ j, j < i → part (L.getD i sv0).xs f m ≠ part (L.getD j sv0).xs f m) : decidesB (L.map (·.xs)) f m = true := nodup_iff.2 h
def listFault (T : List (List Int)) : Int :=
  if 64 < T.length ∨ T.all (fun t => decide (t.length ≤ 5)) = false then 3
  else if T = [] ∨ T.all (fun t => t.all (fun n => decide (0 ≤ n) && decide (n ≤ 5))) = false then 2 else if decidesB T 0 5 = false then 6 else 0
theorem lf_many {L : List SV} (h : 64 < L.length) : listFault (L.map (·.xs)) = 3 := by
  unfold listFault; rw [if_pos (.inl (by rw [List.length_map]; exact h))]
theorem lf_long {L : List SV} {i : Nat} (hi : i < L.length) (h : 5 < (L.getD i sv0).xs.length) : listFault (L.map (·.xs)) = 3 := by
  have : (L.map (·.xs)).all (fun t => decide (t.length ≤ 5)) = false := by
    rw [List.all_map]
    exact all_bad (d := sv0) hi (by show decide ((L.getD i sv0).xs.length ≤ 5) = false; rw [decide_eq_false_iff_not]; omega)
  unfold listFault
  rw [if_pos (.inr this)]
theorem lf_no3 {L : List SV} (h64 : L.length ≤ 64) (h5 : (L.map (·.xs)).all (fun t => decide (t.length ≤ 5)) = true) : ¬ (64 < (L.map (·.xs)).length ∨ (L.map (·.xs)).all (fun t => decide (t.length ≤ 5)) = false) := by
  rw [List.length_map, h5]; simp; omega
theorem lf_bad {L : List SV} {i k : Nat} (h64 : L.length ≤ 64) (h5 : (L.map (·.xs)).all (fun t => decide (t.length ≤ 5)) = true) (hi : i < L.length) (hk : k < (L.getD i sv0).xs.length)
    (h : (decide (0 ≤ (L.getD i sv0).xs.getD k 0) && decide ((L.getD i sv0).xs.getD k 0 ≤ 5)) = false) : listFault (L.map (·.xs)) = 2 := by
  have : (L.map (·.xs)).all (fun t => t.all (fun n => decide (0 ≤ n) && decide (n ≤ 5))) = false := by
    rw [List.all_map]
    exact all_bad (d := sv0) hi (all_bad (d := 0) (p := fun n => decide (0 ≤ n) && decide (n ≤ 5)) hk h)
  unfold listFault
  rw [if_neg (lf_no3 h64 h5), if_pos (.inr this)]
theorem lf_none {L : List SV} (h : L.length = 0) : listFault (L.map (·.xs)) = 2 := by
  have : L = [] := List.eq_nil_of_length_eq_zero h
  subst this; rfl
theorem lf_no2 {L : List SV} (h5 : (L.map (·.xs)).all (fun t => t.all (fun n => decide (0 ≤ n) && decide (n ≤ 5))) = true) (h0 : L.length ≠ 0) : ¬ (L.map (·.xs) = [] ∨ (L.map (·.xs)).all (fun t => t.all (fun n => decide (0 ≤ n) && decide (n ≤ 5))) = false) := by
  rw [h5]; simp; intro h; subst h; exact h0 rfl
theorem lf_six {L : List SV} (h64 : L.length ≤ 64) (h5 : (L.map (·.xs)).all (fun t => decide (t.length ≤ 5)) = true) (hr : (L.map (·.xs)).all (fun t => t.all (fun n => decide (0 ≤ n) && decide (n ≤ 5))) = true) (h0 : L.length ≠ 0) (hd : decidesB (L.map (·.xs)) 0 5 = false) : listFault (L.map (·.xs)) = 6 := by
  unfold listFault; rw [if_neg (lf_no3 h64 h5), if_neg (lf_no2 hr h0), if_pos hd]
theorem lf_ok {L : List SV} (h64 : L.length ≤ 64) (h5 : (L.map (·.xs)).all (fun t => decide (t.length ≤ 5)) = true) (hr : (L.map (·.xs)).all (fun t => t.all (fun n => decide (0 ≤ n) && decide (n ≤ 5))) = true) (h0 : L.length ≠ 0) (hd : decidesB (L.map (·.xs)) 0 5 = true) : listFault (L.map (·.xs)) = 0 := by
  unfold listFault; rw [if_neg (lf_no3 h64 h5), if_neg (lf_no2 hr h0), if_neg (by rw [hd]; simp)]

theorem el3 : Elem Try.prog 3 (vint 0) 1 8 := elem_of (by kernel_rfl) rfl (by decide)
theorem rpart_ret (xa : Option Addr) (xc : Nat) (xs : List Int) (f m : Nat) (w : World) (hx : Row w xa xs.length xc 1 (xs.map vint)) (hxn : xs.length ≤ 2097152) (hf : f ≤ 9) (hm : m ≤ 9) : Ret Try.prog 45 [.slice xa xs.length xc, vint (f : Int), vint (m : Int)] w (fun v w' => ∃ ra0 rc0, v = .slice ra0 (part xs f m).length rc0 ∧ w'.ownsRow w.heap.size 3 1 (.slice ra0 (part xs f m).length rc0) (part xs f m).length ((part xs f m).map vint) ∧ Ext w w') := by
  have hB := Below.refl w.heap.size w
  have hsz : w.heap.size ≤ w.heap.size := Nat.le_refl _
  refine ret_of_runs (args := [_, _, _]) Try.func45 rfl (Nat.le_of_ble_eq_true rfl) (by kernel_rfl) ?_
  refine r_seq ?_
  refine r_region' ?_
  refine l_q (q_assign (v := .slice _ _ _) rfl rfl) ?_
  refine l_nil ?_
  refine r_forget [(0, .slice _ _ _), (1, .int _ _), (2, .int _ _)] ⟨rfl, rfl, rfl, trivial⟩ (fun e1 => ?_)
  refine r_seq ?_
  refine r_region' ?_
  refine l_q (q_assign (v := .slice _ _ _) rfl rfl) ?_
  refine l_nil ?_
  refine r_seq ?_
  refine r_seq ?_
  refine r_region' ?_
  refine l_q (q_move (v := .int _ _) rfl rfl) ?_
  refine l_q (q_assign (v := .int _ _) rfl rfl) ?_
  refine l_nil ?_
  refine r_forget [(0, .slice _ _ _), (1, .int _ _), (2, .int _ _), (7, .slice _ _ _), (8, .int _ _)] ⟨rfl, rfl, rfl, rfl, rfl, trivial⟩ (fun e2 => ?_)
  refine r_block ?_
  refine r_rounds (α := Nat × (Option Addr) × Nat) (fun ⟨k, oa, oc⟩ e wl => Knows e [(0, .slice xa xs.length xc), (1, vint (f : Int)), (2, vint (m : Int)), (7, .slice oa (((xs.drop f).take (k - f)).length) oc), (8, vint (k : Int))] ∧ (k ≤ f + m) ∧ (f ≤ k) ∧ (k ≤ f ∨ k ≤ xs.length) ∧ (wl.ownsRow w.heap.size 3 1 (.slice oa (((xs.drop f).take (k - f)).length) oc) (((xs.drop f).take (k - f)).length) (((xs.drop f).take (k - f)).map vint)) ∧ (w.heap.size ≤ wl.heap.size) ∧ (Below w.heap.size w wl)) (fun ⟨k, oa, oc⟩ => f + m - k) (f, none, 0) ?_ ?_
  · skip
    exact ⟨⟨rfl, rfl, rfl, (by rw [Nat.sub_self]; rfl), rfl, trivial⟩, (by omega), (Nat.le_refl _), (.inl (Nat.le_refl _)), (by rw [Nat.sub_self]; exact World.ownsRow_nil _ _ _ _), hsz, hB⟩
  · skip
    rintro ⟨k, oa, oc⟩ el3 wl3 ⟨hkn, hkk, hfk, hkx, ho, hsz, hB⟩ ih3
    obtain ⟨e3, rfl⟩ := knows_env hkn
    refine r_seq ?_
    refine r_seq ?_
    refine r_region' ?_
    refine l_q (q_move (v := .int _ _) rfl rfl) ?_
    refine l_q (q_move (v := .int _ _) rfl rfl) ?_
    refine l_q (q_move (v := .int _ _) rfl rfl) ?_
    refine l_q (q_add rfl rfl (by omega) rfl) ?_
    refine l_q (q_lss rfl rfl rfl) ?_
    refine l_q (q_move (v := .bool _) rfl rfl) ?_
    refine l_part 15 rfl (fun hc4 => ?_) (fun hc4 => ?_)
    · skip
      try simp only [decide_eq_true_eq, decide_eq_false_iff_not, Bool.not_eq_true', Bool.not_eq_false', Bool.not_not, Bool.not_true, Bool.not_false, Bool.not_eq_true, Bool.not_eq_false, Int.not_lt, Int.not_le, Bool.and_eq_true, Bool.or_eq_true, Bool.and_eq_false_iff, Bool.or_eq_false_iff] at hc4
      skip
      refine l_q (q_move (v := .int _ _) rfl rfl) ?_
      refine l_q (q_move (v := .slice _ _ _) rfl rfl) ?_
      refine l_q (q_len rfl Try.underlying25 rfl rfl) ?_
      refine l_q (q_lss rfl rfl rfl) ?_
      refine l_q (q_pick_t (v := .bool _) rfl rfl rfl) ?_
      refine l_nil ?_
      refine r_forget [(0, .slice _ _ _), (1, .int _ _), (2, .int _ _), (7, .slice _ _ _), (8, .int _ _), (20, .bool _)] ⟨rfl, rfl, rfl, rfl, rfl, rfl, trivial⟩ (fun e5 => ?_)
      refine r_cond rfl (fun hc6 => ?_) (fun hc6 => ?_)
      · skip
        try simp only [decide_eq_true_eq, decide_eq_false_iff_not, Bool.not_eq_true', Bool.not_eq_false', Bool.not_not, Bool.not_true, Bool.not_false, Bool.not_eq_true, Bool.not_eq_false, Int.not_lt, Int.not_le, Bool.and_eq_true, Bool.or_eq_true, Bool.and_eq_false_iff, Bool.or_eq_false_iff] at hc6
        have hkx2 : k < xs.length := by omega
        refine r_skip ?_
        refine r_seq ?_
        refine r_block ?_
        refine r_region' ?_
        refine l_q (q_move (v := .slice _ _ _) rfl rfl) ?_
        refine l_q (q_move (v := .slice _ _ _) rfl rfl) ?_
        refine l_q (q_move (v := .int _ _) rfl rfl) ?_
        obtain ⟨b7, o7, ha7, hh7⟩ := (hx.below hB).at1 k ((xs).getD k 0) (getD_some (by omega))
        refine l_q (q_indexAddr1 Try.underlying25 Try.sizeOf3 rfl ha7 rfl (by omega) rfl) ?_
        refine l_q (q_load Try.isAgg3 rfl (hh7) rfl) ?_
        refine l_o (o_buildSlice (el := 3) (cs := [vint ((xs).getD k 0)]) Try.underlying25 el3 (by decide) (by kernel_rfl) rfl (by decide) rfl ?_)
        intro b8 w8 hzl8 hzr8 _ hb8 hE8 ho8
        have hbs_b8 : w.heap.size ≤ b8 := Nat.le_trans hsz hzl8
        replace hB := below_ext hB hE8 hsz
        replace ho := own_ext ho hE8
        replace hsz := Nat.le_trans hsz hE8.size
        refine l_o (o_append_map (f := vint) ((xs.drop f).take (k - f)) ([(xs).getD k 0]) Try.underlying25 el3 rfl rfl ho rfl (Row.of_owns ho8) (fun _ => rfl) (by (try simp only [List.length_append, List.length_cons, List.length_nil, List.length_take, List.length_drop, List.length_replicate]); omega) (by omega) rfl ?_)
        intro a9 c9 w9 hz9 ho9 hG9
        replace hB := below_own hB hG9 ho (by omega) hsz
        replace hsz := Nat.le_trans hsz hG9.size
        refine l_q (q_assign (v := .slice _ _ _) rfl rfl) ?_
        refine l_nil ?_
        refine r_forget [(0, .slice _ _ _), (1, .int _ _), (2, .int _ _), (7, .slice _ _ _), (8, .int _ _)] ⟨rfl, rfl, rfl, rfl, rfl, trivial⟩ (fun e10 => ?_)
        refine r_inBlock ?_
        refine r_region' ?_
        refine l_q (q_move (v := .int _ _) rfl rfl) ?_
        refine l_q (q_add rfl rfl (by omega) rfl) ?_
        refine l_q (q_assign (v := .int _ _) rfl rfl) ?_
        refine l_nil ?_
        refine r_forget [(0, .slice _ _ _), (1, .int _ _), (2, .int _ _), (7, .slice _ _ _), (8, .int _ _)] ⟨rfl, rfl, rfl, rfl, rfl, trivial⟩ (fun e11 => ?_)
        have hkx2 : k < xs.length := by omega
        have hst := part_step (xs := xs) hfk hkx2
        exact ih3 (k + 1, a9, c9) _ _ ⟨⟨rfl, rfl, rfl, (congrArg (fun z => Value.slice _ (List.length z) _) hst), by first | rfl | exact vint_eq (by omega), trivial⟩, (by omega), (by omega), (by omega), (hst ▸ ho9), hsz, hB⟩ (by first | omega | (dsimp only; omega))
      · skip
        try simp only [decide_eq_true_eq, decide_eq_false_iff_not, Bool.not_eq_true', Bool.not_eq_false', Bool.not_not, Bool.not_true, Bool.not_false, Bool.not_eq_true, Bool.not_eq_false, Int.not_lt, Int.not_le, Bool.and_eq_true, Bool.or_eq_true, Bool.and_eq_false_iff, Bool.or_eq_false_iff] at hc6
        refine r_exit rfl ?_
        refine r_seq ?_
        refine r_region' ?_
        refine l_q (q_move (v := .slice _ _ _) rfl rfl) ?_
        refine l_q (q_assign (v := .slice _ _ _) rfl rfl) ?_
        refine l_nil ?_
        refine r_forget [(6, .slice _ _ _)] ⟨rfl, trivial⟩ (fun e12 => ?_)
        refine r_ret_ (vs := [.slice _ _ _]) rfl Try.func45 rfl (.nil _) ⟨rfl, trivial⟩ ?_
        exact ⟨_, _, (congrArg (fun z => Value.slice _ (List.length z) _) (part_end hfk (by omega) (by omega))), ((part_end (xs := xs) hfk (by omega) (by omega)) ▸ ho), Ext.of_below hB⟩
    · skip
      try simp only [decide_eq_true_eq, decide_eq_false_iff_not, Bool.not_eq_true', Bool.not_eq_false', Bool.not_not, Bool.not_true, Bool.not_false, Bool.not_eq_true, Bool.not_eq_false, Int.not_lt, Int.not_le, Bool.and_eq_true, Bool.or_eq_true, Bool.and_eq_false_iff, Bool.or_eq_false_iff] at hc4
      refine l_q (q_skip rfl) ?_
      refine l_q (q_skip rfl) ?_
      refine l_q (q_skip rfl) ?_
      refine l_q (q_skip rfl) ?_
      refine l_q (q_pick_f (v := .bool _) rfl rfl rfl) ?_
      refine l_nil ?_
      refine r_forget [(0, .slice _ _ _), (1, .int _ _), (2, .int _ _), (7, .slice _ _ _), (8, .int _ _), (20, .bool _)] ⟨rfl, rfl, rfl, rfl, rfl, rfl, trivial⟩ (fun e13 => ?_)
      refine r_cond_f rfl ?_
      refine r_exit rfl ?_
      refine r_seq ?_
      refine r_region' ?_
      refine l_q (q_move (v := .slice _ _ _) rfl rfl) ?_
      refine l_q (q_assign (v := .slice _ _ _) rfl rfl) ?_
      refine l_nil ?_
      refine r_forget [(6, .slice _ _ _)] ⟨rfl, trivial⟩ (fun e14 => ?_)
      refine r_ret_ (vs := [.slice _ _ _]) rfl Try.func45 rfl (.nil _) ⟨rfl, trivial⟩ ?_
      exact ⟨_, _, (congrArg (fun z => Value.slice _ (List.length z) _) (part_end hfk (by omega) (by omega))), ((part_end (xs := xs) hfk (by omega) (by omega)) ▸ ho), Ext.of_below hB⟩
theorem rdecides_ret (la : Option Addr) (lc : Nat) (L : List SV) (f m : Nat) (w : World) (hl : Row w la L.length lc 1 (L.map SV.enc)) (hlr : RowsI w L) (hln : L.length ≤ 2097152) (hle : ∀ s ∈ L, s.xs.length ≤ 2097152) (hf : f ≤ 9) (hm : m ≤ 9) : Ret Try.prog 44 [.slice la L.length lc, vint (f : Int), vint (m : Int)] w (fun v w' => v = .bool (decidesB (L.map (·.xs)) f m) ∧ Ext w w') := by
  have hLL : (L.map (·.xs)).length = L.length := List.length_map _
  have hpl : ∀ i, (part (L.getD i sv0).xs f m).length ≤ 9 := fun i => part_le hm
  have hB := Below.refl w.heap.size w
  have hsz : w.heap.size ≤ w.heap.size := Nat.le_refl _
  refine ret_of_runs (args := [_, _, _]) Try.func44 rfl (Nat.le_of_ble_eq_true rfl) (by kernel_rfl) ?_
  refine r_seq ?_
  refine r_region' ?_
  refine l_q (q_assign (v := .bool _) rfl rfl) ?_
  refine l_nil ?_
  refine r_forget [(0, .slice _ _ _), (1, .int _ _), (2, .int _ _)] ⟨rfl, rfl, rfl, trivial⟩ (fun e1 => ?_)
  refine r_seq ?_
  refine r_seq ?_
  refine r_region' ?_
  refine l_q (q_assign (v := .int _ _) rfl rfl) ?_
  refine l_nil ?_
  refine r_block ?_
  refine r_rounds (α := Nat) (fun i e wl => Knows e [(0, .slice la L.length lc), (1, vint (f : Int)), (2, vint (m : Int)), (7, vint (i : Int))] ∧ (i ≤ L.length) ∧ (∀ i2, i2 < i → ∀ j, j < i2 → part (L.getD i2 sv0).xs f m ≠ part (L.getD j sv0).xs f m) ∧ (w.heap.size ≤ wl.heap.size) ∧ (Below w.heap.size w wl)) (fun i => L.length - i) 0 ?_ ?_
  · skip
    exact ⟨⟨rfl, rfl, rfl, rfl, trivial⟩, (Nat.zero_le _), (fun i hi => absurd hi (Nat.not_lt_zero _)), hsz, hB⟩
  · skip
    rintro i el2 wl2 ⟨hkn, hki, hq, hsz, hB⟩ ih2
    obtain ⟨e2, rfl⟩ := knows_env hkn
    refine r_seq ?_
    refine r_seq ?_
    refine r_region' ?_
    refine l_q (q_move (v := .int _ _) rfl rfl) ?_
    refine l_q (q_move (v := .slice _ _ _) rfl rfl) ?_
    refine l_q (q_len rfl Try.underlying48 rfl rfl) ?_
    refine l_q (q_lss rfl rfl rfl) ?_
    refine l_nil ?_
    refine r_forget [(0, .slice _ _ _), (1, .int _ _), (2, .int _ _), (7, .int _ _), (12, .bool _)] ⟨rfl, rfl, rfl, rfl, rfl, trivial⟩ (fun e3 => ?_)
    refine r_cond rfl (fun hc4 => ?_) (fun hc4 => ?_)
    · skip
      try simp only [decide_eq_true_eq, decide_eq_false_iff_not, Bool.not_eq_true', Bool.not_eq_false', Bool.not_not, Bool.not_true, Bool.not_false, Bool.not_eq_true, Bool.not_eq_false, Int.not_lt, Int.not_le, Bool.and_eq_true, Bool.or_eq_true, Bool.and_eq_false_iff, Bool.or_eq_false_iff] at hc4
      have hil : i < L.length := by omega
      have hel := hle _ (getD_lt (d := sv0) hil)
      refine r_skip ?_
      refine r_seq ?_
      refine r_block ?_
      refine r_seq ?_
      refine r_region' ?_
      refine l_q (q_assign (v := .int _ _) rfl rfl) ?_
      refine l_nil ?_
      refine r_forget [(0, .slice _ _ _), (1, .int _ _), (2, .int _ _), (7, .int _ _), (8, .int _ _)] ⟨rfl, rfl, rfl, rfl, rfl, trivial⟩ (fun e5 => ?_)
      refine r_block ?_
      refine r_rounds (α := Nat) (fun j e wl => Knows e [(0, .slice la L.length lc), (1, vint (f : Int)), (2, vint (m : Int)), (7, vint (i : Int)), (8, vint (j : Int))] ∧ (j ≤ i) ∧ (∀ j2, j2 < j → part (L.getD i sv0).xs f m ≠ part (L.getD j2 sv0).xs f m) ∧ (w.heap.size ≤ wl.heap.size) ∧ (Below w.heap.size w wl)) (fun j => i - j) 0 ?_ ?_
      · skip
        exact ⟨⟨rfl, rfl, rfl, rfl, rfl, trivial⟩, (Nat.zero_le _), (fun i hi => absurd hi (Nat.not_lt_zero _)), hsz, hB⟩
      · skip
        rintro j el6 wl6 ⟨hkn, hkj, hr, hsz, hB⟩ ih6
        obtain ⟨e6, rfl⟩ := knows_env hkn
        refine r_seq ?_
        refine r_seq ?_
        refine r_region' ?_
        refine l_q (q_move (v := .int _ _) rfl rfl) ?_
        refine l_q (q_move (v := .int _ _) rfl rfl) ?_
        refine l_q (q_lss rfl rfl rfl) ?_
        refine l_nil ?_
        refine r_forget [(0, .slice _ _ _), (1, .int _ _), (2, .int _ _), (7, .int _ _), (8, .int _ _), (17, .bool _)] ⟨rfl, rfl, rfl, rfl, rfl, rfl, trivial⟩ (fun e7 => ?_)
        refine r_cond rfl (fun hc8 => ?_) (fun hc8 => ?_)
        · skip
          try simp only [decide_eq_true_eq, decide_eq_false_iff_not, Bool.not_eq_true', Bool.not_eq_false', Bool.not_not, Bool.not_true, Bool.not_false, Bool.not_eq_true, Bool.not_eq_false, Int.not_lt, Int.not_le, Bool.and_eq_true, Bool.or_eq_true, Bool.and_eq_false_iff, Bool.or_eq_false_iff] at hc8
          have hem := hle _ (getD_lt (d := sv0) (show j < L.length by omega))
          have hp1 := hpl i
          have hp2 := hpl j
          refine r_skip ?_
          refine r_seq ?_
          refine r_block ?_
          refine r_seq ?_
          refine r_draw ext_refl' ext_trans' [0, 1, 2, 3, 4, 5, 7, 8, 9, 10, 11, 12, 6, 13, 14] [6, 13, 14] 2 (by kernel_rfl) (by kernel_rfl) ?_
          intro w9 _ hE9
          replace hB := below_ext hB hE9 hsz
          replace hsz := Nat.le_trans hsz hE9.size
          refine m_q rfl rfl (fun w' hC' => q_move (v := .slice _ _ _) rfl rfl) ?_
          refine m_q rfl rfl (fun w' hC' => q_move (v := .int _ _) rfl rfl) ?_
          have hr11 := (hlr.below hB).get (i := i) (by omega)
          obtain ⟨b10, o10, ha10, hh10⟩ := (hl.below hB).at1 i ((L).getD i sv0) (getD_some (by omega))
          refine m_q rfl rfl (fun w' hC' => q_indexAddr1 Try.underlying48 Try.sizeOf25 rfl ha10 rfl (by omega) rfl) ?_
          refine m_q rfl rfl (fun w' hC' => q_load Try.isAgg25 rfl ((hh10.ext hC')) rfl) ?_
          refine m_q rfl rfl (fun w' hC' => q_move (v := .int _ _) rfl rfl) ?_
          refine m_q rfl rfl (fun w' hC' => q_move (v := .int _ _) rfl rfl) ?_
          refine m_q rfl rfl (fun w' hC' => q_move (v := .slice _ _ _) rfl rfl) ?_
          refine m_q rfl rfl (fun w' hC' => q_move (v := .int _ _) rfl rfl) ?_
          have hr13 := (hlr.below hB).get (i := j) (by omega)
          obtain ⟨b12, o12, ha12, hh12⟩ := (hl.below hB).at1 j ((L).getD j sv0) (getD_some (by omega))
          refine m_q rfl rfl (fun w' hC' => q_indexAddr1 Try.underlying48 Try.sizeOf25 rfl ha12 rfl (by omega) rfl) ?_
          refine m_q rfl rfl (fun w' hC' => q_load Try.isAgg25 rfl ((hh12.ext hC')) rfl) ?_
          refine m_q rfl rfl (fun w' hC' => q_move (v := .int _ _) rfl rfl) ?_
          refine m_q rfl rfl (fun w' hC' => q_move (v := .int _ _) rfl rfl) ?_
          refine m_o rfl rfl (o_call Try.call45 rfl (rpart_ret _ _ (((L).getD i sv0).xs) f m _ hr11 (by omega) (by omega) (by omega)) rfl ?_)
          rintro _ w14 ⟨a14_0, c14_0, rfl, ho14_0, hE14⟩
          replace ho14_0 := own_mono ho14_0 (show w.heap.size ≤ _ by omega)
          refine ⟨hE14, ?_⟩
          replace hB := below_ext hB hE14 hsz
          replace hr11 := hr11.ext hE14
          replace hr13 := hr13.ext hE14
          replace hsz := Nat.le_trans hsz hE14.size
          refine m_o rfl rfl (o_call Try.call45 rfl (rpart_ret _ _ (((L).getD j sv0).xs) f m _ hr13 (by omega) (by omega) (by omega)) rfl ?_)
          rintro _ w15 ⟨a15_0, c15_0, rfl, ho15_0, hE15⟩
          replace ho15_0 := own_mono ho15_0 (show w.heap.size ≤ _ by omega)
          refine ⟨hE15, ?_⟩
          replace hB := below_ext hB hE15 hsz
          replace hr11 := hr11.ext hE15
          replace hr13 := hr13.ext hE15
          replace ho14_0 := own_ext ho14_0 hE15
          replace hsz := Nat.le_trans hsz hE15.size
          refine m_o rfl rfl (o_call Try.call30 rfl (same_ret _ _ (part (((L).getD i sv0).xs) f m) _ _ (part (((L).getD j sv0).xs) f m) _ (Row.of_owns ho14_0) (by omega) (Row.of_owns ho15_0) (by omega)) rfl ?_)
          rintro _ w16 ⟨rfl, hE16⟩
          refine ⟨hE16, ?_⟩
          replace hB := below_ext hB hE16 hsz
          replace hr11 := hr11.ext hE16
          replace hr13 := hr13.ext hE16
          replace ho14_0 := own_ext ho14_0 hE16
          replace ho15_0 := own_ext ho15_0 hE16
          replace hsz := Nat.le_trans hsz hE16.size
          refine m_nil ?_
          refine r_forget [(0, .slice _ _ _), (1, .int _ _), (2, .int _ _), (7, .int _ _), (8, .int _ _), (34, .bool _)] ⟨rfl, rfl, rfl, rfl, rfl, rfl, trivial⟩ (fun e17 => ?_)
          refine r_cond rfl (fun hc18 => ?_) (fun hc18 => ?_)
          · skip
            try simp only [decide_eq_true_eq, decide_eq_false_iff_not, Bool.not_eq_true', Bool.not_eq_false', Bool.not_not, Bool.not_true, Bool.not_false, Bool.not_eq_true, Bool.not_eq_false, Int.not_lt, Int.not_le, Bool.and_eq_true, Bool.or_eq_true, Bool.and_eq_false_iff, Bool.or_eq_false_iff] at hc18
            refine r_seq ?_
            refine r_region' ?_
            refine l_q (q_assign (v := .bool _) rfl rfl) ?_
            refine l_nil ?_
            refine r_forget [(6, .bool _)] ⟨rfl, trivial⟩ (fun e19 => ?_)
            refine r_ret_ (vs := [.bool _]) rfl Try.func44 rfl (.nil _) ⟨rfl, trivial⟩ ?_
            exact ⟨vbool_eq (dec_bad (i := i) (j := j) (by omega) (by omega) (by assumption)).symm, Ext.of_below hB⟩
          · skip
            try simp only [decide_eq_true_eq, decide_eq_false_iff_not, Bool.not_eq_true', Bool.not_eq_false', Bool.not_not, Bool.not_true, Bool.not_false, Bool.not_eq_true, Bool.not_eq_false, Int.not_lt, Int.not_le, Bool.and_eq_true, Bool.or_eq_true, Bool.and_eq_false_iff, Bool.or_eq_false_iff] at hc18
            refine r_skip ?_
            refine r_inBlock ?_
            refine r_region' ?_
            refine l_q (q_move (v := .int _ _) rfl rfl) ?_
            refine l_q (q_add rfl rfl (by omega) rfl) ?_
            refine l_q (q_assign (v := .int _ _) rfl rfl) ?_
            refine l_nil ?_
            refine r_forget [(0, .slice _ _ _), (1, .int _ _), (2, .int _ _), (7, .int _ _), (8, .int _ _)] ⟨rfl, rfl, rfl, rfl, rfl, trivial⟩ (fun e20 => ?_)
            exact ih6 (j + 1) _ _ ⟨⟨rfl, rfl, rfl, rfl, by first | rfl | exact vint_eq (by omega), trivial⟩, (by omega), (fun j hj => by rcases Nat.lt_succ_iff_lt_or_eq.1 hj with h | h; exact hr j h; subst h; assumption), hsz, hB⟩ (by first | omega | (dsimp only; omega))
        · skip
          try simp only [decide_eq_true_eq, decide_eq_false_iff_not, Bool.not_eq_true', Bool.not_eq_false', Bool.not_not, Bool.not_true, Bool.not_false, Bool.not_eq_true, Bool.not_eq_false, Int.not_lt, Int.not_le, Bool.and_eq_true, Bool.or_eq_true, Bool.and_eq_false_iff, Bool.or_eq_false_iff] at hc8
          refine r_exit rfl ?_
          refine r_inBlock ?_
          refine r_region' ?_
          refine l_q (q_move (v := .int _ _) rfl rfl) ?_
          refine l_q (q_add rfl rfl (by omega) rfl) ?_
          refine l_q (q_assign (v := .int _ _) rfl rfl) ?_
          refine l_nil ?_
          refine r_forget [(0, .slice _ _ _), (1, .int _ _), (2, .int _ _), (7, .int _ _)] ⟨rfl, rfl, rfl, rfl, trivial⟩ (fun e21 => ?_)
          exact ih2 (i + 1) _ _ ⟨⟨rfl, rfl, rfl, by first | rfl | exact vint_eq (by omega), trivial⟩, (by omega), (fun j hj => by rcases Nat.lt_succ_iff_lt_or_eq.1 hj with h | h; exact hq j h; subst h; exact fun j2 hj2 => hr j2 (by omega)), hsz, hB⟩ (by first | omega | (dsimp only; omega))
    · skip
      try simp only [decide_eq_true_eq, decide_eq_false_iff_not, Bool.not_eq_true', Bool.not_eq_false', Bool.not_not, Bool.not_true, Bool.not_false, Bool.not_eq_true, Bool.not_eq_false, Int.not_lt, Int.not_le, Bool.and_eq_true, Bool.or_eq_true, Bool.and_eq_false_iff, Bool.or_eq_false_iff] at hc4
      refine r_exit rfl ?_
      refine r_seq ?_
      refine r_region' ?_
      refine l_q (q_assign (v := .bool _) rfl rfl) ?_
      refine l_nil ?_
      refine r_forget [(6, .bool _)] ⟨rfl, trivial⟩ (fun e22 => ?_)
      refine r_ret_ (vs := [.bool _]) rfl Try.func44 rfl (.nil _) ⟨rfl, trivial⟩ ?_
      exact ⟨vbool_eq (dec_good (fun i hi j hj => hq i (by omega) j hj)).symm, Ext.of_below hB⟩
theorem listFault_ret (la : Option Addr) (lc : Nat) (L : List SV) (w : World) (hl : Row w la L.length lc 1 (L.map SV.enc)) (hlr : RowsI w L) (hln : L.length ≤ 2097152) (hle : ∀ s ∈ L, s.xs.length ≤ 2097152) : Ret Try.prog 39 [.slice la L.length lc] w (fun v w' => v = vint (listFault (L.map (·.xs))) ∧ Ext w w') := by
  have hB := Below.refl w.heap.size w
  have hsz : w.heap.size ≤ w.heap.size := Nat.le_refl _
  refine ret_of_runs (args := [_]) Try.func39 rfl (Nat.le_of_ble_eq_true rfl) (by kernel_rfl) ?_
  refine r_seq ?_
  refine r_region' ?_
  refine l_q (q_assign (v := .int _ _) rfl rfl) ?_
  refine l_nil ?_
  refine r_forget [(0, .slice _ _ _)] ⟨rfl, trivial⟩ (fun e1 => ?_)
  refine r_seq ?_
  refine r_seq ?_
  refine r_region' ?_
  refine l_q (q_move (v := .slice _ _ _) rfl rfl) ?_
  refine l_q (q_len rfl Try.underlying48 rfl rfl) ?_
  refine l_q (q_gtr rfl rfl rfl) ?_
  refine l_nil ?_
  refine r_forget [(0, .slice _ _ _), (8, .bool _)] ⟨rfl, rfl, trivial⟩ (fun e2 => ?_)
  refine r_cond rfl (fun hc3 => ?_) (fun hc3 => ?_)
  · skip
    try simp only [decide_eq_true_eq, decide_eq_false_iff_not, Bool.not_eq_true', Bool.not_eq_false', Bool.not_not, Bool.not_true, Bool.not_false, Bool.not_eq_true, Bool.not_eq_false, Int.not_lt, Int.not_le, Bool.and_eq_true, Bool.or_eq_true, Bool.and_eq_false_iff, Bool.or_eq_false_iff] at hc3
    refine r_seq ?_
    refine r_region' ?_
    refine l_q (q_assign (v := .int _ _) rfl rfl) ?_
    refine l_nil ?_
    refine r_forget [(2, .int _ _)] ⟨rfl, trivial⟩ (fun e4 => ?_)
    refine r_ret_ (vs := [.int _ _]) rfl Try.func39 rfl (.nil _) ⟨rfl, trivial⟩ ?_
    exact ⟨vint_eq (lf_many (by omega)).symm, Ext.of_below hB⟩
  · skip
    try simp only [decide_eq_true_eq, decide_eq_false_iff_not, Bool.not_eq_true', Bool.not_eq_false', Bool.not_not, Bool.not_true, Bool.not_false, Bool.not_eq_true, Bool.not_eq_false, Int.not_lt, Int.not_le, Bool.and_eq_true, Bool.or_eq_true, Bool.and_eq_false_iff, Bool.or_eq_false_iff] at hc3
    refine r_skip ?_
    refine r_seq ?_
    refine r_seq ?_
    refine r_region' ?_
    refine l_q (q_assign (v := .int _ _) rfl rfl) ?_
    refine l_nil ?_
    refine r_forget [(0, .slice _ _ _), (3, .int _ _)] ⟨rfl, rfl, trivial⟩ (fun e5 => ?_)
    refine r_block ?_
    refine r_rounds (α := Nat) (fun i e wl => Knows e [(0, .slice la L.length lc), (3, vint (i : Int))] ∧ (i ≤ L.length) ∧ (L.length ≤ 64) ∧ (∀ j, j < i → (L.getD j sv0).xs.length ≤ 5) ∧ (w.heap.size ≤ wl.heap.size) ∧ (Below w.heap.size w wl)) (fun i => L.length - i) 0 ?_ ?_
    · skip
      exact ⟨⟨rfl, rfl, trivial⟩, (Nat.zero_le _), (by omega), (fun i hi => absurd hi (Nat.not_lt_zero _)), hsz, hB⟩
    · skip
      rintro i el6 wl6 ⟨hkn, hki, h64, hq, hsz, hB⟩ ih6
      obtain ⟨e6, rfl⟩ := knows_env hkn
      refine r_seq ?_
      refine r_seq ?_
      refine r_region' ?_
      refine l_q (q_move (v := .int _ _) rfl rfl) ?_
      refine l_q (q_move (v := .slice _ _ _) rfl rfl) ?_
      refine l_q (q_len rfl Try.underlying48 rfl rfl) ?_
      refine l_q (q_lss rfl rfl rfl) ?_
      refine l_nil ?_
      refine r_forget [(0, .slice _ _ _), (3, .int _ _), (12, .bool _)] ⟨rfl, rfl, rfl, trivial⟩ (fun e7 => ?_)
      refine r_cond rfl (fun hc8 => ?_) (fun hc8 => ?_)
      · skip
        try simp only [decide_eq_true_eq, decide_eq_false_iff_not, Bool.not_eq_true', Bool.not_eq_false', Bool.not_not, Bool.not_true, Bool.not_false, Bool.not_eq_true, Bool.not_eq_false, Int.not_lt, Int.not_le, Bool.and_eq_true, Bool.or_eq_true, Bool.and_eq_false_iff, Bool.or_eq_false_iff] at hc8
        have hil : i < L.length := by omega
        refine r_skip ?_
        refine r_seq ?_
        refine r_block ?_
        refine r_seq ?_
        refine r_region' ?_
        refine l_q (q_move (v := .slice _ _ _) rfl rfl) ?_
        refine l_q (q_move (v := .int _ _) rfl rfl) ?_
        have hr10 := (hlr.below hB).get (i := i) (by omega)
        obtain ⟨b9, o9, ha9, hh9⟩ := (hl.below hB).at1 i ((L).getD i sv0) (getD_some (by omega))
        refine l_q (q_indexAddr1 Try.underlying48 Try.sizeOf25 rfl ha9 rfl (by omega) rfl) ?_
        refine l_q (q_load Try.isAgg25 rfl (hh9) rfl) ?_
        refine l_q (q_len rfl Try.underlying25 rfl rfl) ?_
        refine l_q (q_gtr rfl rfl rfl) ?_
        refine l_nil ?_
        refine r_forget [(0, .slice _ _ _), (3, .int _ _), (20, .bool _)] ⟨rfl, rfl, rfl, trivial⟩ (fun e11 => ?_)
        refine r_cond rfl (fun hc12 => ?_) (fun hc12 => ?_)
        · skip
          try simp only [decide_eq_true_eq, decide_eq_false_iff_not, Bool.not_eq_true', Bool.not_eq_false', Bool.not_not, Bool.not_true, Bool.not_false, Bool.not_eq_true, Bool.not_eq_false, Int.not_lt, Int.not_le, Bool.and_eq_true, Bool.or_eq_true, Bool.and_eq_false_iff, Bool.or_eq_false_iff] at hc12
          refine r_seq ?_
          refine r_region' ?_
          refine l_q (q_assign (v := .int _ _) rfl rfl) ?_
          refine l_nil ?_
          refine r_forget [(2, .int _ _)] ⟨rfl, trivial⟩ (fun e13 => ?_)
          refine r_ret_ (vs := [.int _ _]) rfl Try.func39 rfl (.nil _) ⟨rfl, trivial⟩ ?_
          exact ⟨vint_eq (lf_long (i := i) (by omega) (by omega)).symm, Ext.of_below hB⟩
        · skip
          try simp only [decide_eq_true_eq, decide_eq_false_iff_not, Bool.not_eq_true', Bool.not_eq_false', Bool.not_not, Bool.not_true, Bool.not_false, Bool.not_eq_true, Bool.not_eq_false, Int.not_lt, Int.not_le, Bool.and_eq_true, Bool.or_eq_true, Bool.and_eq_false_iff, Bool.or_eq_false_iff] at hc12
          refine r_skip ?_
          refine r_inBlock ?_
          refine r_region' ?_
          refine l_q (q_move (v := .int _ _) rfl rfl) ?_
          refine l_q (q_add rfl rfl (by omega) rfl) ?_
          refine l_q (q_assign (v := .int _ _) rfl rfl) ?_
          refine l_nil ?_
          refine r_forget [(0, .slice _ _ _), (3, .int _ _)] ⟨rfl, rfl, trivial⟩ (fun e14 => ?_)
          exact ih6 (i + 1) _ _ ⟨⟨rfl, by first | rfl | exact vint_eq (by omega), trivial⟩, (by omega), (by omega), (fun j hj => by rcases Nat.lt_succ_iff_lt_or_eq.1 hj with h | h; exact hq j h; subst h; omega), hsz, hB⟩ (by first | omega | (dsimp only; omega))
      · skip
        try simp only [decide_eq_true_eq, decide_eq_false_iff_not, Bool.not_eq_true', Bool.not_eq_false', Bool.not_not, Bool.not_true, Bool.not_false, Bool.not_eq_true, Bool.not_eq_false, Int.not_lt, Int.not_le, Bool.and_eq_true, Bool.or_eq_true, Bool.and_eq_false_iff, Bool.or_eq_false_iff] at hc8
        have hq5 : (L.map (·.xs)).all (fun t => decide (t.length ≤ 5)) = true := by rw [List.all_map]; exact all_getD (d := sv0) (fun j hj => decide_eq_true (hq j (by omega)))
        refine r_exit rfl ?_
        refine r_seq ?_
        refine r_seq ?_
        refine r_region' ?_
        refine l_q (q_assign (v := .int _ _) rfl rfl) ?_
        refine l_nil ?_
        refine r_forget [(0, .slice _ _ _), (4, .int _ _)] ⟨rfl, rfl, trivial⟩ (fun e15 => ?_)
        refine r_block ?_
        refine r_rounds (α := Nat) (fun i e wl => Knows e [(0, .slice la L.length lc), (4, vint (i : Int))] ∧ (i ≤ L.length) ∧ (∀ j, j < i → (L.getD j sv0).xs.all (fun n => decide (0 ≤ n) && decide (n ≤ 5)) = true) ∧ (w.heap.size ≤ wl.heap.size) ∧ (Below w.heap.size w wl)) (fun i => L.length - i) 0 ?_ ?_
        · skip
          exact ⟨⟨rfl, rfl, trivial⟩, (Nat.zero_le _), (fun i hi => absurd hi (Nat.not_lt_zero _)), hsz, hB⟩
        · skip
          rintro i el16 wl16 ⟨hkn, hki, hr, hsz, hB⟩ ih16
          obtain ⟨e16, rfl⟩ := knows_env hkn
          refine r_seq ?_
          refine r_seq ?_
          refine r_region' ?_
          refine l_q (q_move (v := .int _ _) rfl rfl) ?_
          refine l_q (q_move (v := .slice _ _ _) rfl rfl) ?_
          refine l_q (q_len rfl Try.underlying48 rfl rfl) ?_
          refine l_q (q_lss rfl rfl rfl) ?_
          refine l_nil ?_
          refine r_forget [(0, .slice _ _ _), (4, .int _ _), (24, .bool _)] ⟨rfl, rfl, rfl, trivial⟩ (fun e17 => ?_)
          refine r_cond rfl (fun hc18 => ?_) (fun hc18 => ?_)
          · skip
            try simp only [decide_eq_true_eq, decide_eq_false_iff_not, Bool.not_eq_true', Bool.not_eq_false', Bool.not_not, Bool.not_true, Bool.not_false, Bool.not_eq_true, Bool.not_eq_false, Int.not_lt, Int.not_le, Bool.and_eq_true, Bool.or_eq_true, Bool.and_eq_false_iff, Bool.or_eq_false_iff] at hc18
            have hil2 : i < L.length := by omega
            have hel := hle _ (getD_lt (d := sv0) hil2)
            refine r_skip ?_
            refine r_seq ?_
            refine r_block ?_
            refine r_seq ?_
            refine r_region' ?_
            refine l_q (q_assign (v := .int _ _) rfl rfl) ?_
            refine l_nil ?_
            refine r_forget [(0, .slice _ _ _), (4, .int _ _), (5, .int _ _)] ⟨rfl, rfl, rfl, trivial⟩ (fun e19 => ?_)
            refine r_block ?_
            refine r_rounds (α := Nat) (fun k e wl => Knows e [(0, .slice la L.length lc), (4, vint (i : Int)), (5, vint (k : Int))] ∧ (k ≤ (L.getD i sv0).xs.length) ∧ (∀ j, j < k → (decide (0 ≤ (L.getD i sv0).xs.getD j 0) && decide ((L.getD i sv0).xs.getD j 0 ≤ 5)) = true) ∧ (w.heap.size ≤ wl.heap.size) ∧ (Below w.heap.size w wl)) (fun k => (L.getD i sv0).xs.length - k) 0 ?_ ?_
            · skip
              exact ⟨⟨rfl, rfl, rfl, trivial⟩, (Nat.zero_le _), (fun i hi => absurd hi (Nat.not_lt_zero _)), hsz, hB⟩
            · skip
              rintro k el20 wl20 ⟨hkn, hkk, hz, hsz, hB⟩ ih20
              obtain ⟨e20, rfl⟩ := knows_env hkn
              refine r_seq ?_
              refine r_seq ?_
              refine r_region' ?_
              refine l_q (q_move (v := .int _ _) rfl rfl) ?_
              refine l_q (q_move (v := .slice _ _ _) rfl rfl) ?_
              refine l_q (q_move (v := .int _ _) rfl rfl) ?_
              have hr22 := (hlr.below hB).get (i := i) (by omega)
              obtain ⟨b21, o21, ha21, hh21⟩ := (hl.below hB).at1 i ((L).getD i sv0) (getD_some (by omega))
              refine l_q (q_indexAddr1 Try.underlying48 Try.sizeOf25 rfl ha21 rfl (by omega) rfl) ?_
              refine l_q (q_load Try.isAgg25 rfl (hh21) rfl) ?_
              refine l_q (q_len rfl Try.underlying25 rfl rfl) ?_
              refine l_q (q_lss rfl rfl rfl) ?_
              refine l_nil ?_
              refine r_forget [(0, .slice _ _ _), (4, .int _ _), (5, .int _ _), (33, .bool _)] ⟨rfl, rfl, rfl, rfl, trivial⟩ (fun e23 => ?_)
              refine r_cond rfl (fun hc24 => ?_) (fun hc24 => ?_)
              · skip
                try simp only [decide_eq_true_eq, decide_eq_false_iff_not, Bool.not_eq_true', Bool.not_eq_false', Bool.not_not, Bool.not_true, Bool.not_false, Bool.not_eq_true, Bool.not_eq_false, Int.not_lt, Int.not_le, Bool.and_eq_true, Bool.or_eq_true, Bool.and_eq_false_iff, Bool.or_eq_false_iff] at hc24
                refine r_skip ?_
                refine r_seq ?_
                refine r_block ?_
                refine r_seq ?_
                refine r_region' ?_
                refine l_q (q_move (v := .slice _ _ _) rfl rfl) ?_
                refine l_q (q_move (v := .int _ _) rfl rfl) ?_
                have hr26 := (hlr.below hB).get (i := i) (by omega)
                obtain ⟨b25, o25, ha25, hh25⟩ := (hl.below hB).at1 i ((L).getD i sv0) (getD_some (by omega))
                refine l_q (q_indexAddr1 Try.underlying48 Try.sizeOf25 rfl ha25 rfl (by omega) rfl) ?_
                refine l_q (q_load Try.isAgg25 rfl (hh25) rfl) ?_
                refine l_q (q_move (v := .int _ _) rfl rfl) ?_
                obtain ⟨b27, o27, ha27, hh27⟩ := hr26.at1 k ((((L).getD i sv0).xs).getD k 0) (getD_some (by omega))
                refine l_q (q_indexAddr1 Try.underlying25 Try.sizeOf3 rfl ha27 rfl (by omega) rfl) ?_
                refine l_q (q_load Try.isAgg3 rfl (hh27) rfl) ?_
                refine l_o (o_call Try.call33 rfl (in_ret _ _ _ _) rfl ?_)
                rintro _ w28 ⟨rfl, rfl⟩
                refine l_q (q_not rfl rfl) ?_
                refine l_nil ?_
                refine r_forget [(0, .slice _ _ _), (4, .int _ _), (5, .int _ _), (44, .bool _)] ⟨rfl, rfl, rfl, rfl, trivial⟩ (fun e29 => ?_)
                refine r_cond rfl (fun hc30 => ?_) (fun hc30 => ?_)
                · skip
                  try simp only [decide_eq_true_eq, decide_eq_false_iff_not, Bool.not_eq_true', Bool.not_eq_false', Bool.not_not, Bool.not_true, Bool.not_false, Bool.not_eq_true, Bool.not_eq_false, Int.not_lt, Int.not_le, Bool.and_eq_true, Bool.or_eq_true, Bool.and_eq_false_iff, Bool.or_eq_false_iff] at hc30
                  refine r_seq ?_
                  refine r_region' ?_
                  refine l_q (q_assign (v := .int _ _) rfl rfl) ?_
                  refine l_nil ?_
                  refine r_forget [(2, .int _ _)] ⟨rfl, trivial⟩ (fun e31 => ?_)
                  refine r_ret_ (vs := [.int _ _]) rfl Try.func39 rfl (.nil _) ⟨rfl, trivial⟩ ?_
                  exact ⟨vint_eq (lf_bad (i := i) (k := k) h64 hq5 (by omega) (by omega) (by first | assumption | (simp only [Bool.and_eq_false_iff, decide_eq_false_iff_not]; omega))).symm, Ext.of_below hB⟩
                · skip
                  try simp only [decide_eq_true_eq, decide_eq_false_iff_not, Bool.not_eq_true', Bool.not_eq_false', Bool.not_not, Bool.not_true, Bool.not_false, Bool.not_eq_true, Bool.not_eq_false, Int.not_lt, Int.not_le, Bool.and_eq_true, Bool.or_eq_true, Bool.and_eq_false_iff, Bool.or_eq_false_iff] at hc30
                  refine r_skip ?_
                  refine r_inBlock ?_
                  refine r_region' ?_
                  refine l_q (q_move (v := .int _ _) rfl rfl) ?_
                  refine l_q (q_add rfl rfl (by omega) rfl) ?_
                  refine l_q (q_assign (v := .int _ _) rfl rfl) ?_
                  refine l_nil ?_
                  refine r_forget [(0, .slice _ _ _), (4, .int _ _), (5, .int _ _)] ⟨rfl, rfl, rfl, trivial⟩ (fun e32 => ?_)
                  exact ih20 (k + 1) _ _ ⟨⟨rfl, rfl, by first | rfl | exact vint_eq (by omega), trivial⟩, (by omega), (fun j hj => by rcases Nat.lt_succ_iff_lt_or_eq.1 hj with h | h; exact hz j h; subst h; first | assumption | (simp only [Bool.and_eq_true, decide_eq_true_eq]; omega)), hsz, hB⟩ (by first | omega | (dsimp only; omega))
              · skip
                try simp only [decide_eq_true_eq, decide_eq_false_iff_not, Bool.not_eq_true', Bool.not_eq_false', Bool.not_not, Bool.not_true, Bool.not_false, Bool.not_eq_true, Bool.not_eq_false, Int.not_lt, Int.not_le, Bool.and_eq_true, Bool.or_eq_true, Bool.and_eq_false_iff, Bool.or_eq_false_iff] at hc24
                refine r_exit rfl ?_
                refine r_inBlock ?_
                refine r_region' ?_
                refine l_q (q_move (v := .int _ _) rfl rfl) ?_
                refine l_q (q_add rfl rfl (by omega) rfl) ?_
                refine l_q (q_assign (v := .int _ _) rfl rfl) ?_
                refine l_nil ?_
                refine r_forget [(0, .slice _ _ _), (4, .int _ _)] ⟨rfl, rfl, trivial⟩ (fun e33 => ?_)
                exact ih16 (i + 1) _ _ ⟨⟨rfl, by first | rfl | exact vint_eq (by omega), trivial⟩, (by omega), (fun j hj => by rcases Nat.lt_succ_iff_lt_or_eq.1 hj with h | h; exact hr j h; subst h; exact all_getD (d := 0) (fun j2 hj2 => hz j2 (by omega))), hsz, hB⟩ (by first | omega | (dsimp only; omega))
          · skip
            try simp only [decide_eq_true_eq, decide_eq_false_iff_not, Bool.not_eq_true', Bool.not_eq_false', Bool.not_not, Bool.not_true, Bool.not_false, Bool.not_eq_true, Bool.not_eq_false, Int.not_lt, Int.not_le, Bool.and_eq_true, Bool.or_eq_true, Bool.and_eq_false_iff, Bool.or_eq_false_iff] at hc18
            have hr5 : (L.map (·.xs)).all (fun t => t.all (fun n => decide (0 ≤ n) && decide (n ≤ 5))) = true := by rw [List.all_map]; exact all_getD (d := sv0) (fun j hj => hr j (by omega))
            refine r_exit rfl ?_
            refine r_seq ?_
            refine r_seq ?_
            refine r_region' ?_
            refine l_q (q_move (v := .slice _ _ _) rfl rfl) ?_
            refine l_q (q_len rfl Try.underlying48 rfl rfl) ?_
            refine l_q (q_eql rfl rfl rfl) ?_
            refine l_nil ?_
            refine r_forget [(0, .slice _ _ _), (47, .bool _)] ⟨rfl, rfl, trivial⟩ (fun e34 => ?_)
            refine r_cond rfl (fun hc35 => ?_) (fun hc35 => ?_)
            · skip
              try simp only [decide_eq_true_eq, decide_eq_false_iff_not, Bool.not_eq_true', Bool.not_eq_false', Bool.not_not, Bool.not_true, Bool.not_false, Bool.not_eq_true, Bool.not_eq_false, Int.not_lt, Int.not_le, Bool.and_eq_true, Bool.or_eq_true, Bool.and_eq_false_iff, Bool.or_eq_false_iff] at hc35
              refine r_seq ?_
              refine r_region' ?_
              refine l_q (q_assign (v := .int _ _) rfl rfl) ?_
              refine l_nil ?_
              refine r_forget [(2, .int _ _)] ⟨rfl, trivial⟩ (fun e36 => ?_)
              refine r_ret_ (vs := [.int _ _]) rfl Try.func39 rfl (.nil _) ⟨rfl, trivial⟩ ?_
              exact ⟨vint_eq (lf_none (by omega)).symm, Ext.of_below hB⟩
            · skip
              try simp only [decide_eq_true_eq, decide_eq_false_iff_not, Bool.not_eq_true', Bool.not_eq_false', Bool.not_not, Bool.not_true, Bool.not_false, Bool.not_eq_true, Bool.not_eq_false, Int.not_lt, Int.not_le, Bool.and_eq_true, Bool.or_eq_true, Bool.and_eq_false_iff, Bool.or_eq_false_iff] at hc35
              refine r_skip ?_
              refine r_seq ?_
              refine r_seq ?_
              refine r_region' ?_
              refine l_q (q_move (v := .slice _ _ _) rfl rfl) ?_
              refine l_o (o_call Try.call44 rfl (rdecides_ret _ _ _ 0 5 _ (hl.below hB) (hlr.below hB) (by omega) (by assumption) (by decide) (by decide)) rfl ?_)
              rintro _ w37 ⟨rfl, hE37⟩
              replace hB := below_ext hB hE37 hsz
              replace hsz := Nat.le_trans hsz hE37.size
              refine l_q (q_not rfl rfl) ?_
              refine l_nil ?_
              refine r_forget [(50, .bool _)] ⟨rfl, trivial⟩ (fun e38 => ?_)
              refine r_cond rfl (fun hc39 => ?_) (fun hc39 => ?_)
              · skip
                try simp only [decide_eq_true_eq, decide_eq_false_iff_not, Bool.not_eq_true', Bool.not_eq_false', Bool.not_not, Bool.not_true, Bool.not_false, Bool.not_eq_true, Bool.not_eq_false, Int.not_lt, Int.not_le, Bool.and_eq_true, Bool.or_eq_true, Bool.and_eq_false_iff, Bool.or_eq_false_iff] at hc39
                have hd := hc39
                refine r_seq ?_
                refine r_region' ?_
                refine l_q (q_assign (v := .int _ _) rfl rfl) ?_
                refine l_nil ?_
                refine r_forget [(2, .int _ _)] ⟨rfl, trivial⟩ (fun e40 => ?_)
                refine r_ret_ (vs := [.int _ _]) rfl Try.func39 rfl (.nil _) ⟨rfl, trivial⟩ ?_
                exact ⟨vint_eq (lf_six h64 hq5 hr5 (by omega) hd).symm, Ext.of_below hB⟩
              · skip
                try simp only [decide_eq_true_eq, decide_eq_false_iff_not, Bool.not_eq_true', Bool.not_eq_false', Bool.not_not, Bool.not_true, Bool.not_false, Bool.not_eq_true, Bool.not_eq_false, Int.not_lt, Int.not_le, Bool.and_eq_true, Bool.or_eq_true, Bool.and_eq_false_iff, Bool.or_eq_false_iff] at hc39
                have hd := hc39
                refine r_skip ?_
                refine r_seq ?_
                refine r_region' ?_
                refine l_q (q_assign (v := .int _ _) rfl rfl) ?_
                refine l_nil ?_
                refine r_forget [(2, .int _ _)] ⟨rfl, trivial⟩ (fun e41 => ?_)
                refine r_ret_ (vs := [.int _ _]) rfl Try.func39 rfl (.nil _) ⟨rfl, trivial⟩ ?_
                exact ⟨vint_eq (lf_ok h64 hq5 hr5 (by omega) hd).symm, Ext.of_below hB⟩
end Go.Proofs.Ytkcbgpilfegofaa
