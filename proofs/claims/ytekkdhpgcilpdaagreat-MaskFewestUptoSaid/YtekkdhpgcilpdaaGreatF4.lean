/- Contracts. -/
import Derived.Test.YtekkdhpgcilpdaaGreatF3
set_option linter.unusedVariables false
set_option linter.unusedSimpArgs false
namespace Go.Proofs.YtekkdhpgcilpdaaGreat
open Go Go.RowKit Go.Gv Go.Fl

def isSign (b : UInt8) : Bool := [46, 45, 32].contains b
theorem u8_eq {b n : UInt8} (h : (b.toNat : Int) = n.toNat) : b = n := UInt8.toNat_inj.1 (by exact_mod_cast h)
theorem isSign_of {b : UInt8} (h : ((b.toNat : Int) = 46) ∨ ((b.toNat : Int) = 45) ∨ ((b.toNat : Int) = 32)) : isSign b = true := by
  rcases h with h | h | h
  · rw [u8_eq (n := 46) h]; rfl
  · rw [u8_eq (n := 45) h]; rfl
  · rw [u8_eq (n := 32) h]; rfl
theorem isSign_not {b : UInt8} (h1 : ¬ ((b.toNat : Int) = 46)) (h2 : ¬ ((b.toNat : Int) = 45)) (h3 : ¬ ((b.toNat : Int) = 32)) : isSign b = false := by
  have h1 := u8_ne (n := 46) h1; have h2 := u8_ne (n := 45) h2; have h3 := u8_ne (n := 32) h3
  simp [isSign, h1, h2, h3]
theorem all_getD {α : Type} {l : List α} {d : α} {p : α → Bool} (h : ∀ j, j < l.length → p (l.getD j d) = true) : l.all p = true := by
  rw [List.all_eq_true]
  intro x hx
  obtain ⟨i, hi, rfl⟩ := List.mem_iff_getElem.1 hx
  have := h i hi
  rwa [List.getD_eq_getElem?_getD, List.getElem?_eq_getElem hi] at this
theorem all_bad {α : Type} {l : List α} {d : α} {p : α → Bool} {k : Nat} (hk : k < l.length) (h : p (l.getD k d) = false) : l.all p = false := by
  rw [List.all_eq_false]
  exact ⟨_, getD_lt hk, by rw [h]; exact Bool.false_ne_true⟩
theorem signsFault_good {a b s : Sg} (hs : s = a ++ b) (hle : a.length ≤ 40 ∧ b.length ≤ 40) (h : ∀ j, j < s.length → isSign (s.getD j 0) = true) : signsFault a b = 0 := by
  have := all_getD h
  rw [hs] at this
  rw [List.all_append, Bool.and_eq_true] at this
  unfold signsFault
  rw [if_neg (by omega), if_pos (by rw [Bool.and_eq_true]; exact this)]
theorem signsFault_bad {a b s : Sg} (hs : s = a ++ b) {k : Nat} (hle : a.length ≤ 40 ∧ b.length ≤ 40) (hk : k < s.length) (h : isSign (s.getD k 0) = false) : signsFault a b = 4 := by
  have := all_bad hk h
  rw [hs] at this
  rw [List.all_append] at this
  unfold signsFault
  rw [if_neg (by omega), if_neg (by unfold isSigns; unfold isSign at this; rw [this]; simp)]
theorem isText_good {c : List Sg} {t : List Int} (h : ∀ j, j < t.length → (decide (0 ≤ t.getD j 0) && decide (t.getD j 0 ≤ (c.length : Int) - 1)) = true) : isText c t = true :=
  all_getD (d := 0) (p := fun n => decide (0 ≤ n) && decide (n ≤ (c.length : Int) - 1)) h
theorem isText_bad {c : List Sg} {t : List Int} {k : Nat} (hk : k < t.length) (h : (decide (0 ≤ t.getD k 0) && decide (t.getD k 0 ≤ (c.length : Int) - 1)) = false) : isText c t = false :=
  all_bad (d := 0) (p := fun n => decide (0 ≤ n) && decide (n ≤ (c.length : Int) - 1)) hk h
theorem signs_step1 {c : List Sg} {t : List Int} {k : Nat} (hk : k < t.length) (h0 : 0 < k) : (signs c (t.take k) ++ [32]) ++ c.getD (t.getD k 0).toNat [] = signs c (t.take (k + 1)) := by
  rw [take_succ_getD hk, signs_snoc (by intro h; have := congrArg List.length h; rw [List.length_take, List.length_nil] at this; omega)]
theorem signs_step0 {c : List Sg} {t : List Int} {k : Nat} (hk : k < t.length) (h0 : k = 0) : signs c (t.take k) ++ c.getD (t.getD k 0).toNat [] = signs c (t.take (k + 1)) := by
  subst h0
  rw [take_succ_getD hk]
  simp [signs_nil, signs_one]


theorem signsFault_ret (a b : Sg) (w : World) (ha : a.length ≤ 2097152) (hb : b.length ≤ 2097152) : Ret Tryz.prog 98 [vstr a, vstr b] w (fun v w' => v = vint (signsFault a b) ∧ w = w') := by
 obtain ⟨s, hs⟩ : ∃ s, s = a ++ b := ⟨_, rfl⟩
 have hsl : s.length = a.length + b.length := by rw [hs, List.length_append]
 have hB := Below.refl w.heap.size w
 have hsz : w.heap.size ≤ w.heap.size := Nat.le_refl _
 refine ret_of_runs (args := [_, _]) Tryz.func98 rfl (Nat.le_of_ble_eq_true rfl) (by kernel_rfl) (r_seq (r_region' (l_q (qai rfl rfl) (l_nil (r_seq (r_seq (r_region' (l_q (q_move (v := .string _) rfl rfl) (l_q (q_len_str rfl Tryz.underlying9 rfl rfl) (l_q (q_gtr rfl rfl rfl) (l_q (qmb rfl rfl) (l_part 10 rfl (fun hc1 => ?_) (fun hc1 => ?_)))))))))))))
 ·
  replace hc1 := dt hc1
  refine l_q (q_skip rfl) (l_q (q_skip rfl) (l_q (q_skip rfl) (l_q (q_pick_t (v := .bool _) rfl rfl rfl) (l_nil (r_cond_t rfl (r_seq (r_region' (l_q (qai rfl rfl) (l_nil (r_forget [(4, .int _ _)] ⟨rfl, trivial⟩ (fun e2 => (r_ret_ (vs := [.int _ _]) rfl Tryz.func98 rfl (.nil _) ⟨rfl, trivial⟩ ?_))))))))))))
  exact ⟨vint_eq (by unfold signsFault; rw [if_pos (by omega)]), rfl⟩
 ·
  replace hc1 := dlt hc1
  refine l_q (q_move (v := .string _) rfl rfl) (l_q (q_len_str rfl Tryz.underlying9 rfl rfl) (l_q (q_gtr rfl rfl rfl) (l_q (q_pick_f (v := .bool _) rfl rfl rfl) (l_nil (r_cond rfl (fun hc3 => ?_) (fun hc3 => ?_))))))
  ·
   replace hc3 := dt hc3
   refine r_seq (r_region' (l_q (qai rfl rfl) (l_nil (r_forget [(4, .int _ _)] ⟨rfl, trivial⟩ (fun e4 => (r_ret_ (vs := [.int _ _]) rfl Tryz.func98 rfl (.nil _) ⟨rfl, trivial⟩ ?_))))))
   exact ⟨vint_eq (by unfold signsFault; rw [if_pos (by omega)]), rfl⟩
  ·
   replace hc3 := dlt hc3
   refine r_skip (r_seq (r_region' (l_q (q_move (v := .string _) rfl rfl) (l_q (q_move (v := .string _) rfl rfl) (l_q (q_add_str rfl rfl (by omega) rfl) (l_q (q_assign (v := .string _) rfl rfl) (l_nil (r_forget [(5, .string _)] ⟨rfl, trivial⟩ (fun e5 => (r_seq (r_seq (r_region' (l_q (qai rfl rfl) (l_nil (r_block (r_rounds (α := Nat) (fun k e wl => Knows e [(5, vstr s), (6, vint (k : Int))] ∧ (k ≤ s.length) ∧ (a.length ≤ 40 ∧ b.length ≤ 40) ∧ (∀ j, j < k → isSign (s.getD j 0) = true) ∧ (w = wl)) (fun k => s.length - k) 0 ?_ ?_))))))))))))))))
   ·
    exact ⟨⟨(vstr_eq hs.symm), rfl, trivial⟩, (Nat.zero_le _), (by omega), (fun i hi => absurd hi (Nat.not_lt_zero _)), rfl⟩
   ·
    rintro k el6 wl6 ⟨hkn, hkk, hle, hby, rfl⟩ ih6
    obtain ⟨e6, rfl⟩ := knows_env hkn
    refine r_seq (r_seq (r_region' (l_q (qmi rfl rfl) (l_q (q_move (v := .string _) rfl rfl) (l_q (q_len_str rfl Tryz.underlying9 rfl rfl) (l_q (q_lss rfl rfl rfl) (l_nil (r_cond rfl (fun hc7 => ?_) (fun hc7 => ?_)))))))))
    ·
     replace hc7 := dt hc7
     refine r_skip (r_seq (r_block (r_seq (r_region' (l_q (q_move (v := .string _) rfl rfl) (l_q (qmi rfl rfl) (l_q (q_index_str (c := (s).getD k 0) Tryz.underlying9 rfl rfl (by omega) (getD_some (by omega)) rfl) (l_q (q_neq rfl rfl rfl) (l_q (qmb rfl rfl) (l_part 28 rfl (fun hc8 => ?_) (fun hc8 => ?_)))))))))))
     ·
      replace hc8 := df (nt hc8)
      refine l_q (q_move (v := .string _) rfl rfl) (l_q (qmi rfl rfl) (l_q (q_index_str (c := (s).getD k 0) Tryz.underlying9 rfl rfl (by omega) (getD_some (by omega)) rfl) (l_q (q_neq rfl rfl rfl) (l_q (q_pick_t (v := .bool _) rfl rfl rfl) (l_q (qmb rfl rfl) (l_part 34 rfl (fun hc9 => ?_) (fun hc9 => ?_)))))))
      ·
       replace hc9 := df (nt hc9)
       refine l_q (q_move (v := .string _) rfl rfl) (l_q (qmi rfl rfl) (l_q (q_index_str (c := (s).getD k 0) Tryz.underlying9 rfl rfl (by omega) (getD_some (by omega)) rfl) (l_q (q_neq rfl rfl rfl) (l_q (q_pick_t (v := .bool _) rfl rfl rfl) (l_nil (r_forget [(5, .string _), (6, .int _ _), (39, .bool _)] ⟨rfl, rfl, rfl, trivial⟩ (fun e10 => (r_cond rfl (fun hc11 => ?_) (fun hc11 => ?_)))))))))
       ·
        replace hc11 := df (nt hc11)
        refine r_seq (r_region' (l_q (qai rfl rfl) (l_nil (r_ret_ (vs := [.int _ _]) rfl Tryz.func98 rfl (.nil _) ⟨rfl, trivial⟩ ?_))))
        exact ⟨vint_eq (signsFault_bad hs (k := k) hle (by omega) (isSign_not (by assumption) (by assumption) (by assumption))).symm, rfl⟩
       ·
        replace hc11 := dt (nf hc11)
        refine r_skip (r_inBlock (r_region' (l_q (qmi rfl rfl) (l_q (q_add rfl rfl (by omega) rfl) (l_q (qai rfl rfl) (l_nil ?_))))))
        exact ih6 (k + 1) _ _ ⟨⟨rfl, by first | rfl | exact vint_eq (by omega), trivial⟩, (by omega), hle, (fun j hj => by rcases Nat.lt_succ_iff_lt_or_eq.1 hj with h | h; exact hby j h; subst h; first | exact isSign_of (.inl (by assumption)) | exact isSign_of (.inr (.inl (by assumption))) | exact isSign_of (.inr (.inr (by assumption)))), rfl⟩ (by first | omega | (dsimp only; omega))
      ·
       replace hc9 := dt (nf hc9)
       refine l_q (q_skip rfl) (l_q (q_skip rfl) (l_q (q_skip rfl) (l_q (q_skip rfl) (l_q (q_pick_f (v := .bool _) rfl rfl rfl) (l_nil (r_forget [(5, .string _), (6, .int _ _), (39, .bool _)] ⟨rfl, rfl, rfl, trivial⟩ (fun e12 => (r_cond_f rfl (r_skip (r_inBlock (r_region' (l_q (qmi rfl rfl) (l_q (q_add rfl rfl (by omega) rfl) (l_q (qai rfl rfl) (l_nil ?_)))))))))))))))
       exact ih6 (k + 1) _ _ ⟨⟨rfl, by first | rfl | exact vint_eq (by omega), trivial⟩, (by omega), hle, (fun j hj => by rcases Nat.lt_succ_iff_lt_or_eq.1 hj with h | h; exact hby j h; subst h; first | exact isSign_of (.inl (by assumption)) | exact isSign_of (.inr (.inl (by assumption))) | exact isSign_of (.inr (.inr (by assumption)))), rfl⟩ (by first | omega | (dsimp only; omega))
     ·
      replace hc8 := dt (nf hc8)
      refine l_q (q_skip rfl) (l_q (q_skip rfl) (l_q (q_skip rfl) (l_q (q_skip rfl) (l_q (q_pick_f (v := .bool _) rfl rfl rfl) (l_q (qmb rfl rfl) (l_q (q_skip rfl) (l_q (q_skip rfl) (l_q (q_skip rfl) (l_q (q_skip rfl) (l_q (q_pick_f (v := .bool _) rfl rfl rfl) (l_nil (r_forget [(5, .string _), (6, .int _ _), (39, .bool _)] ⟨rfl, rfl, rfl, trivial⟩ (fun e13 => (r_cond_f rfl (r_skip (r_inBlock (r_region' (l_q (qmi rfl rfl) (l_q (q_add rfl rfl (by omega) rfl) (l_q (qai rfl rfl) (l_nil ?_)))))))))))))))))))))
      exact ih6 (k + 1) _ _ ⟨⟨rfl, by first | rfl | exact vint_eq (by omega), trivial⟩, (by omega), hle, (fun j hj => by rcases Nat.lt_succ_iff_lt_or_eq.1 hj with h | h; exact hby j h; subst h; first | exact isSign_of (.inl (by assumption)) | exact isSign_of (.inr (.inl (by assumption))) | exact isSign_of (.inr (.inr (by assumption)))), rfl⟩ (by first | omega | (dsimp only; omega))
    ·
     replace hc7 := dlt hc7
     refine r_exit rfl (r_seq (r_region' (l_q (qai rfl rfl) (l_nil (r_ret_ (vs := [.int _ _]) rfl Tryz.func98 rfl (.nil _) ⟨rfl, trivial⟩ ?_)))))
     exact ⟨vint_eq (signsFault_good hs hle (fun j hj => hby j (by omega))).symm, rfl⟩
theorem isText_ret (a : Option Addr) (cc : Nat) (c : List Sg) (ta : Option Addr) (tc : Nat) (t : List Int) (w : World) (hrow : Row w a c.length cc 1 (c.map vstr)) (hcn : c.length ≤ 2097152) (ht : Row w ta t.length tc 1 (t.map vint)) (htn : t.length ≤ 2097152) : Ret Tryz.prog 97 [.agg ⟨[.slice a c.length cc]⟩, .slice ta t.length tc] w (fun v w' => v = .bool (isText c t) ∧ Ext w w') := by
 have hB := Below.refl w.heap.size w
 have hsz : w.heap.size ≤ w.heap.size := Nat.le_refl _
 refine ret_of_runs (args := [_, _]) Tryz.func97 rfl (Nat.le_of_ble_eq_true rfl) (by kernel_rfl) (r_seq (r_region' (l_o (o_box rfl rfl rfl ?_))))
 intro b1 w1 hzl1 hzr1 _ hb1 hE1
 have hbs_b1 : w.heap.size ≤ b1 := Nat.le_trans hsz hzl1
 replace hB := below_ext hB hE1 hsz
 replace hsz := Nat.le_trans hsz hE1.size
 refine l_q (qab rfl rfl) (l_nil (r_seq (r_seq (r_region' (l_q (qai rfl rfl) (l_nil (r_block (r_rounds (α := Nat) (fun k e wl => Knows e [(1, .slice ta t.length tc), (2, ptr b1 0), (5, vint (k : Int))] ∧ (k ≤ t.length) ∧ (∀ j, j < k → (decide (0 ≤ t.getD j 0) && decide (t.getD j 0 ≤ (c.length : Int) - 1)) = true) ∧ (Blk wl b1 [.slice a c.length cc]) ∧ (w.heap.size ≤ wl.heap.size) ∧ (Below w.heap.size w wl)) (fun k => t.length - k) 0 ?_ ?_))))))))
 ·
  exact ⟨⟨rfl, rfl, rfl, trivial⟩, (Nat.zero_le _), (fun i hi => absurd hi (Nat.not_lt_zero _)), hb1, hsz, hB⟩
 ·
  rintro k el2 wl2 ⟨hkn, hkk, hok, hb1, hsz, hB⟩ ih2
  obtain ⟨e2, rfl⟩ := knows_env hkn
  refine r_seq (r_seq (r_region' (l_q (qmi rfl rfl) (l_q (qms rfl rfl) (l_q (q_len rfl Tryz.underlying25 rfl rfl) (l_q (q_lss rfl rfl rfl) (l_nil (r_cond rfl (fun hc3 => ?_) (fun hc3 => ?_)))))))))
  ·
   replace hc3 := dt hc3
   refine r_skip (r_seq (r_block (r_seq (r_draw ext_refl' ext_trans' [0, 1, 2, 3, 4, 5, 6, 7, 8, 9] [8] 2 (by kernel_rfl) (by kernel_rfl) ?_))))
   intro w4 _ hE4
   replace hB := below_ext hB hE4 hsz
   replace hb1 := hb1.ext hE4
   replace hsz := Nat.le_trans hsz hE4.size
   refine m_q rfl rfl (fun w' hC' => qms rfl rfl) (m_q rfl rfl (fun w' hC' => qmi rfl rfl) ?_)
   obtain ⟨b5, o5, ha5, hh5⟩ := (ht.below hB).at1 k ((t).getD k 0) (getD_some (by omega))
   refine m_q rfl rfl (fun w' hC' => q_indexAddr1 Tryz.underlying25 Tryz.sizeOf3 rfl ha5 rfl (by omega) rfl) (m_q rfl rfl (fun w' hC' => q_load Tryz.isAgg3 rfl ((hh5.ext hC')) rfl) (m_q rfl rfl (fun w' hC' => q_fieldAddr (o' := 0) rfl fld24_0 rfl) (m_q rfl rfl (fun w' hC' => q_load Tryz.isAgg22 rfl (((hb1.has (o := 0) rfl).ext hC')) rfl) (m_q rfl rfl (fun w' hC' => q_len rfl Tryz.underlying22 rfl rfl) (m_q rfl rfl (fun w' hC' => q_sub rfl rfl (by omega) rfl) (m_o rfl rfl (o_call Tryz.call127 rfl (in_ret _ _ _ _) rfl ?_)))))))
   rintro _ w6 ⟨rfl, rfl⟩
   refine ⟨Ext.refl _, ?_⟩
   refine m_q rfl rfl (fun w' hC' => q_not rfl rfl) (m_nil (r_forget [(1, .slice _ _ _), (2, .pointer _), (5, .int _ _), (21, .bool _)] ⟨rfl, rfl, rfl, rfl, trivial⟩ (fun e7 => (r_cond rfl (fun hc8 => ?_) (fun hc8 => ?_)))))
   ·
    replace hc8 := b2f (nt hc8)
    refine r_seq (r_region' (l_q (qab rfl rfl) (l_nil (r_ret_ (vs := [.bool _]) rfl Tryz.func97 rfl (.nil _) ⟨rfl, trivial⟩ ?_))))
    exact ⟨vbool_eq (isText_bad (k := k) (by omega) (by rw [Bool.and_eq_false_iff]; simp only [decide_eq_false_iff_not]; omega)).symm, Ext.of_below hB⟩
   ·
    replace hc8 := b2t (nf hc8)
    refine r_skip (r_inBlock (r_region' (l_q (qmi rfl rfl) (l_q (q_add rfl rfl (by omega) rfl) (l_q (qai rfl rfl) (l_nil ?_))))))
    exact ih2 (k + 1) _ _ ⟨⟨rfl, rfl, by first | rfl | exact vint_eq (by omega), trivial⟩, (by omega), (fun j hj => by rcases Nat.lt_succ_iff_lt_or_eq.1 hj with h | h; exact hok j h; subst h; rw [Bool.and_eq_true]; exact ⟨decide_eq_true (by omega), decide_eq_true (by omega)⟩), hb1, hsz, hB⟩ (by first | omega | (dsimp only; omega))
  ·
   replace hc3 := dlt hc3
   refine r_exit rfl (r_seq (r_region' (l_q (qab rfl rfl) (l_nil (r_ret_ (vs := [.bool _]) rfl Tryz.func97 rfl (.nil _) ⟨rfl, trivial⟩ ?_)))))
   exact ⟨vbool_eq (isText_good (fun j hj => hok j (by omega))).symm, Ext.of_below hB⟩
theorem refSigns_ret (a : Option Addr) (cc : Nat) (c : List Sg) (ta : Option Addr) (tc : Nat) (t : List Int) (w : World) (hrow : Row w a c.length cc 1 (c.map vstr)) (hcn : c.length ≤ 2097152) (ht : Row w ta t.length tc 1 (t.map vint)) (htn : t.length ≤ 2097152) (hfc : fault c = 0) (htx : isText c t = true) : Ret Tryz.prog 81 [.agg ⟨[.slice a c.length cc]⟩, .slice ta t.length tc] w (fun v w' => v = vstr (signs c t) ∧ Ext w w') := by
 have hB := Below.refl w.heap.size w
 have hsz : w.heap.size ≤ w.heap.size := Nat.le_refl _
 refine ret_of_runs (args := [_, _]) Tryz.func81 rfl (Nat.le_of_ble_eq_true rfl) (by kernel_rfl) (r_seq (r_region' (l_o (o_box rfl rfl rfl ?_))))
 intro b1 w1 hzl1 hzr1 _ hb1 hE1
 have hbs_b1 : w.heap.size ≤ b1 := Nat.le_trans hsz hzl1
 replace hB := below_ext hB hE1 hsz
 replace hsz := Nat.le_trans hsz hE1.size
 refine l_q (q_assign (v := .string _) rfl rfl) (l_nil (r_seq (r_region' (l_q (q_assign (v := .string _) rfl rfl) (l_nil (r_seq (r_seq (r_region' (l_q (qai rfl rfl) (l_nil (r_block (r_rounds (α := Nat × Sg) (fun ⟨k, out⟩ e wl => Knows e [(1, .slice ta t.length tc), (2, ptr b1 0), (5, vstr out), (6, vint (k : Int))] ∧ (k ≤ t.length) ∧ (out = signs c (t.take k)) ∧ (Blk wl b1 [.slice a c.length cc]) ∧ (w.heap.size ≤ wl.heap.size) ∧ (Below w.heap.size w wl)) (fun ⟨k, out⟩ => t.length - k) (0, []) ?_ ?_))))))))))))
 ·
  exact ⟨⟨rfl, rfl, rfl, rfl, trivial⟩, (Nat.zero_le _), rfl, hb1, hsz, hB⟩
 ·
  rintro ⟨k, out⟩ el2 wl2 ⟨hkn, hkk, hout, hb1, hsz, hB⟩ ih2
  obtain ⟨e2, rfl⟩ := knows_env hkn
  refine r_seq (r_seq (r_region' (l_q (qmi rfl rfl) (l_q (qms rfl rfl) (l_q (q_len rfl Tryz.underlying25 rfl rfl) (l_q (q_lss rfl rfl rfl) (l_nil (r_cond rfl (fun hc3 => ?_) (fun hc3 => ?_)))))))))
  ·
   replace hc3 := dt hc3
   have hkl : k < t.length := by omega
   have hg := isText_get htx hkl
   have hol : out.length ≤ 5 * k := by rw [hout]; have := signs_len hfc (isText_take htx k); rw [List.length_take] at this; omega
   have hll := letter_at hfc hg
   refine r_skip (r_seq (r_block (r_seq (r_seq (r_region' (l_q (qmi rfl rfl) (l_q (q_gtr rfl rfl rfl) (l_nil (r_cond rfl (fun hc4 => ?_) (fun hc4 => ?_))))))))))
   ·
    replace hc4 := dt hc4
    have hk0 : 0 < k := by omega
    refine r_region' (l_q (q_move (v := .string _) rfl rfl) (l_q (q_add_str rfl rfl (by simp; omega) rfl) (l_q (q_assign (v := .string _) rfl rfl) (l_nil (r_draw ext_refl' ext_trans' [0, 1, 2, 3, 4, 5, 6, 7, 8, 9, 10] [] 2 (by kernel_rfl) (by kernel_rfl) ?_)))))
    intro w5 _ hE5
    replace hB := below_ext hB hE5 hsz
    replace hb1 := hb1.ext hE5
    replace hsz := Nat.le_trans hsz hE5.size
    refine m_q rfl rfl (fun w' hC' => q_move (v := .string _) rfl rfl) (m_q rfl rfl (fun w' hC' => q_fieldAddr (o' := 0) rfl fld24_0 rfl) (m_q rfl rfl (fun w' hC' => q_load Tryz.isAgg22 rfl (((hb1.has (o := 0) rfl).ext hC')) rfl) (m_q rfl rfl (fun w' hC' => qms rfl rfl) (m_q rfl rfl (fun w' hC' => qmi rfl rfl) ?_))))
    obtain ⟨b6, o6, ha6, hh6⟩ := (ht.below hB).at1 k ((t).getD k 0) (getD_some (by omega))
    refine m_q rfl rfl (fun w' hC' => q_indexAddr1 Tryz.underlying25 Tryz.sizeOf3 rfl ha6 rfl (by omega) rfl) (m_q rfl rfl (fun w' hC' => q_load Tryz.isAgg3 rfl ((hh6.ext hC')) rfl) ?_)
    obtain ⟨b7, o7, ha7, hh7⟩ := (hrow.below hB).at1 ((t).getD k 0).toNat ((c).getD ((t).getD k 0).toNat []) (getD_some (by omega))
    refine m_q rfl rfl (fun w' hC' => q_indexAddr1 Tryz.underlying22 Tryz.sizeOf9 rfl ha7 rfl (by omega) rfl) (m_q rfl rfl (fun w' hC' => q_load Tryz.isAgg9 rfl ((hh7.ext hC')) rfl) (m_q rfl rfl (fun w' hC' => q_add_str rfl rfl (by simp only [List.length_append, List.length_cons, List.length_nil] at *; omega) rfl) (m_q rfl rfl (fun w' hC' => q_assign (v := .string _) rfl rfl) (m_nil (r_forget [(1, .slice _ _ _), (2, .pointer _), (5, .string _), (6, .int _ _)] ⟨rfl, rfl, rfl, rfl, trivial⟩ (fun e8 => (r_inBlock (r_region' (l_q (qmi rfl rfl) (l_q (q_add rfl rfl (by omega) rfl) (l_q (qai rfl rfl) (l_nil ?_))))))))))))
    exact ih2 (k + 1, (out ++ [32]) ++ ((c).getD ((t).getD k 0).toNat [])) _ _ ⟨⟨rfl, rfl, rfl, by first | rfl | exact vint_eq (by omega), trivial⟩, (by omega), (by rw [hout]; first | exact signs_step1 hkl hk0 | exact signs_step0 hkl hk0), hb1, hsz, hB⟩ (by first | omega | (dsimp only; omega))
   ·
    replace hc4 := dlt hc4
    have hk0 : k = 0 := by omega
    refine r_skip (r_draw ext_refl' ext_trans' [0, 1, 2, 3, 4, 5, 6, 7, 8, 9, 10] [] 2 (by kernel_rfl) (by kernel_rfl) ?_)
    intro w9 _ hE9
    replace hB := below_ext hB hE9 hsz
    replace hb1 := hb1.ext hE9
    replace hsz := Nat.le_trans hsz hE9.size
    refine m_q rfl rfl (fun w' hC' => q_move (v := .string _) rfl rfl) (m_q rfl rfl (fun w' hC' => q_fieldAddr (o' := 0) rfl fld24_0 rfl) (m_q rfl rfl (fun w' hC' => q_load Tryz.isAgg22 rfl (((hb1.has (o := 0) rfl).ext hC')) rfl) (m_q rfl rfl (fun w' hC' => qms rfl rfl) (m_q rfl rfl (fun w' hC' => qmi rfl rfl) ?_))))
    obtain ⟨b10, o10, ha10, hh10⟩ := (ht.below hB).at1 k ((t).getD k 0) (getD_some (by omega))
    refine m_q rfl rfl (fun w' hC' => q_indexAddr1 Tryz.underlying25 Tryz.sizeOf3 rfl ha10 rfl (by omega) rfl) (m_q rfl rfl (fun w' hC' => q_load Tryz.isAgg3 rfl ((hh10.ext hC')) rfl) ?_)
    obtain ⟨b11, o11, ha11, hh11⟩ := (hrow.below hB).at1 ((t).getD k 0).toNat ((c).getD ((t).getD k 0).toNat []) (getD_some (by omega))
    refine m_q rfl rfl (fun w' hC' => q_indexAddr1 Tryz.underlying22 Tryz.sizeOf9 rfl ha11 rfl (by omega) rfl) (m_q rfl rfl (fun w' hC' => q_load Tryz.isAgg9 rfl ((hh11.ext hC')) rfl) (m_q rfl rfl (fun w' hC' => q_add_str rfl rfl (by simp only [List.length_append, List.length_cons, List.length_nil] at *; omega) rfl) (m_q rfl rfl (fun w' hC' => q_assign (v := .string _) rfl rfl) (m_nil (r_forget [(1, .slice _ _ _), (2, .pointer _), (5, .string _), (6, .int _ _)] ⟨rfl, rfl, rfl, rfl, trivial⟩ (fun e12 => (r_inBlock (r_region' (l_q (qmi rfl rfl) (l_q (q_add rfl rfl (by omega) rfl) (l_q (qai rfl rfl) (l_nil ?_))))))))))))
    exact ih2 (k + 1, out ++ ((c).getD ((t).getD k 0).toNat [])) _ _ ⟨⟨rfl, rfl, rfl, by first | rfl | exact vint_eq (by omega), trivial⟩, (by omega), (by rw [hout]; first | exact signs_step1 hkl hk0 | exact signs_step0 hkl hk0), hb1, hsz, hB⟩ (by first | omega | (dsimp only; omega))
  ·
   replace hc3 := dlt hc3
   refine r_exit rfl (r_seq (r_region' (l_q (q_move (v := .string _) rfl rfl) (l_q (q_assign (v := .string _) rfl rfl) (l_nil (r_ret_ (vs := [.string _]) rfl Tryz.func81 rfl (.nil _) ⟨rfl, trivial⟩ ?_))))))
   exact ⟨vstr_eq (by rw [hout, List.take_of_length_le (by omega)]), Ext.of_below hB⟩
end Go.Proofs.YtekkdhpgcilpdaaGreat
