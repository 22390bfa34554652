/- Contracts. -/
import Derived.Test.YtekkdhpgcilpdaaGreatM18
set_option linter.unusedVariables false
set_option linter.unusedSimpArgs false
namespace Go.Proofs.YtekkdhpgcilpdaaGreat
open Go Go.RowKit Go.Gv Go.Fl
/-! ### Without some records -/
def inN (out : Nat → Bool) (r : Nat) : Nat := ((List.range r).filter (fun i => !out i)).length
section
variable {can can' : Nat → Int → Bool} {m : Nat} {out : Nat → Bool}
theorem inN_t {r : Nat} (h : out r = true) : inN out (r + 1) = inN out r := by
  unfold inN
  rw [List.range_succ, List.filter_append, List.length_append, List.filter_cons, h]; rfl
theorem inN_f {r : Nat} (h : out r = false) : inN out (r + 1) = inN out r + 1 := by
  unfold inN
  rw [List.range_succ, List.filter_append, List.length_append, List.filter_cons, h]; rfl
theorem inN_mono {o : Nat → Bool} {r : Nat} : ∀ k : Nat, inN o r ≤ inN o (r + k)
  | 0 => Nat.le_refl _
  | k + 1 => by
    have h := inN_mono (o := o) (r := r) k
    cases ho : o (r + k) with
    | true => rw [show r + (k + 1) = r + k + 1 from rfl, inN_t ho]; exact h
    | false => rw [show r + (k + 1) = r + k + 1 from rfl, inN_f ho]; omega
theorem all_ne {k : Nat} {p : List Int} (ho : out p.length = false) : allF can m out (k + 1) p ≠ [] ↔ ∃ b ∈ bys m, stepB can p b = true ∧ allF can m out k (p ++ [b]) ≠ [] := by
  constructor
  · intro h
    obtain ⟨a, ha⟩ := List.exists_mem_of_ne_nil _ h
    rcases all_succ.1 ha with ⟨h1, _⟩ | ⟨_, b, hb, h2, h3⟩
    · rw [ho] at h1; cases h1
    · exact ⟨b, hb, h2, List.ne_nil_of_mem h3⟩
  · rintro ⟨b, hb, h2, h3⟩
    obtain ⟨a, ha⟩ := List.exists_mem_of_ne_nil _ h3
    exact List.ne_nil_of_mem (all_succ.2 (.inr ⟨ho, b, hb, h2, ha⟩))
theorem all_skip : ∀ {k k' : Nat} {p p' : List Int}, p'.length = inN out p.length → inN out (p.length + k) = p'.length + k' → (∀ b, 0 ≤ b → hasI p b = hasI p' b) → (∀ r b, p.length ≤ r → r < p.length + k → out r = false → can' (inN out r) b = can r b) → (allF can m out k p ≠ [] ↔ allF can' m noB k' p' ≠ [])
  | 0, k', p, p', h1, h2, _, _ => by
    rw [Nat.add_zero] at h2
    obtain rfl : k' = 0 := by omega
    rw [allF, allF]; simp
  | k + 1, k', p, p', h1, h2, h3, h4 => by
    have hl : ∀ b : Int, (p ++ [b]).length = p.length + 1 := fun b => by simp
    cases ho : out p.length with
    | true =>
      rw [allF, if_pos ho]
      refine all_skip (by rw [hl, inN_t ho]; exact h1) (by rw [hl, ← h2]; congr 1; omega) (fun b hb => ?_) (fun r b g1 g2 g3 => h4 r b (by rw [hl] at g1; omega) (by rw [hl] at g2; omega) g3)
      rw [has_snoc, decide_eq_false (by omega), Bool.or_false]
      exact h3 b hb
    | false =>
      have hi := inN_f ho
      have hm := inN_mono (o := out) (r := p.length + 1) k
      rw [show p.length + 1 + k = p.length + (k + 1) by omega] at hm
      obtain ⟨k2, rfl⟩ : ∃ k2, k' = k2 + 1 := ⟨k' - 1, by omega⟩
      rw [all_ne ho, all_ne (show noB p'.length = false from rfl)]
      have hs : ∀ b ∈ bys m, stepB can p b = stepB can' p' b := fun b hb => by
        unfold stepB freeP
        rw [h1, h4 _ b (Nat.le_refl _) (by omega) ho]
        by_cases hb1 : b = -1
        · rw [decide_eq_true hb1]; rfl
        · rw [h3 b (by have := mem_bys.1 hb; omega)]
      have hr : ∀ b, allF can m out k (p ++ [b]) ≠ [] ↔ allF can' m noB k2 (p' ++ [b]) ≠ [] := fun b =>
        all_skip (by rw [hl, hi, List.length_append, h1]; rfl) (by rw [hl, List.length_append, List.length_singleton, show p.length + 1 + k = p.length + (k + 1) by omega, h2]; omega) (fun x hx => by rw [has_snoc, has_snoc, h3 x hx])
          (fun r b g1 g2 g3 => h4 r b (by rw [hl] at g1; omega) (by rw [hl] at g2; omega) g3)
      constructor
      · rintro ⟨b, hb, g1, g2⟩; exact ⟨b, hb, by rw [← hs b hb]; exact g1, (hr b).1 g2⟩
      · rintro ⟨b, hb, g1, g2⟩; exact ⟨b, hb, by rw [hs b hb]; exact g1, (hr b).2 g2⟩
end
def restK (xs : List Int) (R : List RC) (k : Nat) : List RC := ((List.range k).filter (fun r => !outL xs r)).map (fun r => R.getD r rcd0)
def restR (xs : List Int) (R : List RC) : List RC := restK xs R R.length
section
variable {xs : List Int} {R : List RC} {k r : Nat} {l : Lg}
theorem restK_len : (restK xs R k).length = inN (outL xs) k := by unfold restK inN; rw [List.length_map]
theorem restK_le : (restK xs R k).length ≤ k := by
  rw [restK_len]
  unfold inN
  have := List.length_filter_le (fun i => !outL xs i) (List.range k)
  rwa [List.length_range] at this
theorem restK_y (h : hasI xs (k : Int) = false) : restK xs R k ++ [R.getD k rcd0] = restK xs R (k + 1) := by
  unfold restK outL
  rw [List.range_succ, List.filter_append, List.map_append, List.filter_cons, h]; rfl
theorem restK_n (h : hasI xs (k : Int) = true) : restK xs R k = restK xs R (k + 1) := by
  unfold restK outL
  rw [List.range_succ, List.filter_append, List.map_append, List.filter_cons, h]; simp
theorem restK_at : ∀ {k : Nat}, r < k → outL xs r = false → (restK xs R k).getD (inN (outL xs) r) rcd0 = R.getD r rcd0
  | k + 1, hr, ho => by
    have hs : r < k → (restK xs R (k + 1)).getD (inN (outL xs) r) rcd0 = R.getD r rcd0 := fun h => by
      have h1 := restK_at h ho
      have h2 := inN_f ho
      have h3 := inN_mono (o := outL xs) (r := r + 1) (k - (r + 1))
      rw [show r + 1 + (k - (r + 1)) = k by omega] at h3
      cases hk : outL xs k with
      | true => rw [← restK_n hk]; exact h1
      | false => rw [← restK_y hk, List.getD_eq_getElem?_getD, List.getElem?_append_left (by rw [restK_len]; omega), ← List.getD_eq_getElem?_getD]; exact h1
    rcases Nat.lt_succ_iff_lt_or_eq.1 hr with h | rfl
    · exact hs h
    · rw [← restK_y ho, List.getD_eq_getElem?_getD, List.getElem?_append_right (by rw [restK_len]; exact Nat.le_refl _), restK_len, Nat.sub_self]; rfl
theorem restR_mem {x : RC} (h : x ∈ restR xs R) : x ∈ R := by
  unfold restR restK at h
  obtain ⟨i, hi, rfl⟩ := List.mem_map.1 h
  exact getD_lt (List.mem_range.1 (List.mem_filter.1 hi).1)
/-- a log with other records -/
def withR (l : Lg) (R : List RC) : Lg := ⟨l.co, l.er, l.se, l.J, R⟩
theorem withR_ok (h : faultM l = 0) (hl : R.length ≤ 6) (hr : ∀ r ∈ R, okRC l.se.length r = true) : faultM (withR l R) = 0 := by
  unfold faultM at h
  split at h
  · cases h
  · rename_i h1
    split at h
    · rename_i h2; exact absurd h h2
    · rename_i h2
      split at h
      · rename_i h3
        unfold faultM withR
        dsimp only
        rw [if_neg (by omega), if_neg h2, if_pos]
        simp only [Bool.and_eq_true] at h3 ⊢
        exact ⟨h3.1, h3.2.1, List.all_eq_true.2 hr⟩
      · cases h
theorem okRC_of (h : faultM l = 0) : ∀ r ∈ l.R, okRC l.se.length r = true := fun r hr => okrc_iff.2 ((lg_ok h).2.2.2.2.2.2.2 r hr)
def restL (l : Lg) (xs : List Int) : Lg := withR l (restR xs l.R)
theorem rest_ok (h : faultM l = 0) : faultM (restL l xs) = 0 := withR_ok h (by have := (lg_ok h).2.2.1; have := restK_le (xs := xs) (R := l.R) (k := l.R.length); unfold restR; omega) (fun r hr => okRC_of h r (restR_mem hr))
theorem withR_can {b : Int} {q : Nat} (h : R.getD q rcd0 = l.R.getD r rcd0) : canB (withR l R) q b = canB l r b := by
  obtain ⟨co, er, se, J, R2⟩ := l
  unfold canB withR
  dsimp only at h ⊢
  rw [h]; rfl
theorem rest_asg (h : l.R.length ≤ 1000) : asgM (restL l xs) noB ≠ [] ↔ leavQ (canB l) l.J.length l.R.length xs = true := by
  rw [leavQ_iff h]
  unfold asgM
  have hl : (restL l xs).R.length = inN (outL xs) l.R.length := restK_len
  rw [hl]
  exact (all_skip (can := canB l) (can' := canB (restL l xs)) (m := l.J.length) (out := outL xs) (k := l.R.length) (k' := inN (outL xs) l.R.length) (p := []) (p' := []) rfl (by simp) (fun _ _ => rfl) (fun r b _ hr ho => withR_can (restK_at (by simpa using hr) ho))).symm
theorem left_f (h : faultM l = 0) : (assignM (restL l (leaveM l))).2 = 0 := by
  have hr := (lg_ok h).2.2.1
  obtain ⟨x, h1, _, h3, _⟩ := leave_spec (Q := leavQ (canB l) l.J.length l.R.length) (n := l.R.length) leavQ_all
  have he : leaveM l = x := by unfold leaveM; rw [h1]; rfl
  rw [he, (asg_some (rest_ok h) ((rest_asg (by omega)).2 h3)).1]
theorem left_g {t : List Int} (h : faultM l = 0) (ht : risB t (l.R.length : Int) = true) : (assignM (restL l t)).2 = 0 ∧ ltL t (leaveM l) = false ∨ (assignM (restL l t)).2 = 11 := by
  have hr := (lg_ok h).2.2.1
  obtain ⟨x, h1, _, _, h4⟩ := leave_spec (Q := leavQ (canB l) l.J.length l.R.length) (n := l.R.length) leavQ_all
  have he : leaveM l = x := by unfold leaveM; rw [h1]; rfl
  by_cases ha : asgM (restL l t) noB = []
  · exact .inr (by rw [asg_none (rest_ok h) ha])
  · exact .inl ⟨by rw [(asg_some (rest_ok h) ha).1], by rw [he]; exact h4 t ht ((rest_asg (by omega)).1 ha)⟩
theorem left_len : (leaveM l).length ≤ l.R.length := by
  obtain ⟨x, h1, h2, _⟩ := leave_spec (Q := leavQ (canB l) l.J.length l.R.length) (n := l.R.length) leavQ_all
  have he : leaveM l = x := by unfold leaveM; rw [h1]; rfl
  rw [he]
  exact ris_len h2
end
section
variable {l : Lg} {t xs : List Int} {co : List Sg} {er : Int} {se : List Int} {sl : List SN} {rl : List RC}
theorem left_err (h : faultM l = 0) (ht : risB t (l.R.length : Int) = true) (hg : ¬ (assignM (restL l t)).2 = 0) : (assignM (restL l t)).2 = 11 := (left_g h ht).elim (fun h2 => absurd h2.1 hg) id
theorem left_min (h : faultM l = 0) (ht : risB t (l.R.length : Int) = true) (hg : (assignM (restL l t)).2 = 0) : ltL t (leaveM l) = false := (left_g h ht).elim (fun h2 => h2.2) (fun h2 => by rw [h2] at hg; cases hg)
theorem rest_big (hb : LgBig co er se sl rl) : LgBig co er se sl (restR xs rl) := by
  obtain ⟨h1, h2, h3, h4, h5, h6⟩ := hb
  exact ⟨h1, h2, h3, h4, by have := restK_le (xs := xs) (R := rl) (k := rl.length); unfold restR; omega, fun r hr => h6 r (restR_mem hr)⟩
end


theorem without6_ret (ka : Option Addr) (kc : Nat) (co : List Sg) (er : Int) (sa : Option Addr) (sc : Nat) (se : List Int) (ja : Option Addr) (jc : Nat) (sl : List SN) (ra : Option Addr) (rc : Nat) (rl : List RC) (xa : Option Addr) (xc : Nat) (xs : List Int) (w : World) (hlg : LgAt w ka kc co sa sc se ja jc sl ra rc rl) (hbg : LgBig co er se sl rl) (hx : Row w xa xs.length xc 1 (xs.map vint)) (hxn : xs.length ≤ 2097152) : Ret Tryz.prog 42 [.agg ⟨[.slice ka co.length kc, vint er, .slice sa se.length sc, .slice ja sl.length jc, .slice ra rl.length rc]⟩, .slice xa xs.length xc] w (fun v w' => ∃ ra2 rc2, v = .agg ⟨[.slice ka co.length kc, vint er, .slice sa se.length sc, .slice ja sl.length jc, .slice ra2 (restR xs rl).length rc2]⟩ ∧ Row w' ra2 (restR xs rl).length rc2 3 ((restR xs rl).flatMap RC.enc) ∧ Ext w w') := by
 obtain ⟨⟨hcn, hcl⟩, hen, hsn, ⟨hjn, hjl⟩, hrn, hrl⟩ := id hbg
 have hB := Below.refl w.heap.size w
 have hsz : w.heap.size ≤ w.heap.size := Nat.le_refl _
 refine ret_of_runs (args := [_, _]) Tryz.func42 rfl (Nat.le_of_ble_eq_true rfl) (by kernel_rfl) ?_
 refine r_seq (r_region' ?_)
 refine l_o (o_boxt rfl rfl rfl ?_)
 intro b1 w1 hzl1 hzr1 _ hb1 hty_b1 hE1
 have hbs_b1 : w.heap.size ≤ b1 := Nat.le_trans hsz hzl1
 replace hB := below_ext hB hE1 hsz
 replace hsz := Nat.le_trans hsz hE1.size
 refine l_o (o_alloct Tryz.zeroValue29 rfl rfl ?_)
 intro b2 w2 hzl2 hzr2 _ hb2 hty_b2 hE2
 have hne_b1_b2 : b1 ≠ b2 := by have := hb1.lt; omega
 have hbs_b2 : w.heap.size ≤ b2 := Nat.le_trans hsz hzl2
 replace hB := below_ext hB hE2 hsz
 replace hb1 := hb1.ext hE2
 replace hty_b1 := hty_b1.ext hE2
 replace hsz := Nat.le_trans hsz hE2.size
 refine l_nil (r_seq (r_region' ?_))
 refine l_q (q_assign (v := .slice _ _ _) rfl rfl) ?_
 refine l_nil (r_seq (r_seq (r_region' ?_)))
 refine l_q (q_assign (v := .int _ _) rfl rfl) ?_
 refine l_nil (r_block ?_)
 refine r_rounds (α := Nat × (Option Addr) × Nat × (List RC)) (fun ⟨k, oa, oc, N⟩ e wl => Knows e [(1, .slice xa xs.length xc), (2, ptr b1 0), (4, ptr b2 0), (5, .slice oa N.length oc), (6, vint (k : Int))] ∧ (k ≤ rl.length) ∧ (N = restK xs rl k) ∧ (wl.ownsRow w.heap.size 61 3 (.slice oa N.length oc) N.length (N.flatMap RC.enc)) ∧ (Blk wl b1 [.slice ka co.length kc, vint er, .slice sa se.length sc, .slice ja sl.length jc, .slice ra rl.length rc]) ∧ (TyAt wl b1 29) ∧ (Blk wl b2 [.slice none 0 0, vint 0, .slice none 0 0, .slice none 0 0, .slice none 0 0]) ∧ (TyAt wl b2 29) ∧ (w.heap.size ≤ wl.heap.size) ∧ (Below w.heap.size w wl)) (fun ⟨k, oa, oc, N⟩ => rl.length - k) (0, none, 0, []) ?_ ?_
 ·
  exact ⟨⟨rfl, rfl, rfl, rfl, rfl, trivial⟩, (Nat.zero_le _), rfl, (World.ownsRow_nil _ _ _ _), hb1, hty_b1, hb2, hty_b2, hsz, hB⟩
 ·
  rintro ⟨k, oa, oc, N⟩ el3 wl3 ⟨hkn, hk, hN, hor, hb1, hty_b1, hb2, hty_b2, hsz, hB⟩ ih3
  obtain ⟨e3, rfl⟩ := knows_env hkn
  refine r_seq (r_seq (r_region' ?_))
  refine l_q (q_move (v := .int _ _) rfl rfl) ?_
  refine l_q (q_fieldAddr (o' := 4) rfl fld29_4 rfl) ?_
  refine l_q (q_load Tryz.isAgg27 rfl ((hb1.has (o := 4) rfl)) rfl) ?_
  refine l_q (q_len rfl Tryz.underlying27 rfl rfl) ?_
  refine l_q (q_lss rfl rfl rfl) ?_
  refine l_nil ?_
  refine r_cond rfl (fun hc4 => ?_) (fun hc4 => ?_)
  ·
   replace hc4 := dt hc4
   have hkr : k < rl.length := by omega
   have hNl : N.length ≤ k := by rw [hN]; exact restK_le
   refine r_skip (r_seq (r_block (r_seq (r_region' ?_))))
   refine l_q (q_move (v := .slice _ _ _) rfl rfl) ?_
   refine l_q (q_move (v := .int _ _) rfl rfl) ?_
   refine l_o (o_call Tryz.call37 rfl (has6_ret _ _ xs _ _ (hx.below hB) (by omega)) rfl ?_)
   rintro _ w5 ⟨rfl, hE5⟩
   replace hB := below_ext hB hE5 hsz
   replace hb1 := hb1.ext hE5
   replace hty_b1 := hty_b1.ext hE5
   replace hb2 := hb2.ext hE5
   replace hty_b2 := hty_b2.ext hE5
   replace hor := own_ext hor hE5
   replace hsz := Nat.le_trans hsz hE5.size
   refine l_q (q_not rfl rfl) ?_
   refine l_nil ?_
   refine r_cond rfl (fun hc6 => ?_) (fun hc6 => ?_)
   ·
    replace hc6 := nt hc6
    have g17 := hc6
    refine r_region' ?_
    refine l_q (q_move (v := .slice _ _ _) rfl rfl) ?_
    refine l_q (q_fieldAddr (o' := 4) rfl fld29_4 rfl) ?_
    refine l_q (q_load Tryz.isAgg27 rfl ((hb1.has (o := 4) rfl)) rfl) ?_
    refine l_q (q_move (v := .int _ _) rfl rfl) ?_
    obtain ⟨b7, o7, ha7, hh7⟩ := (hlg.rrl.below hB).at (by decide) k (by omega)
    refine l_q (q_indexAddr Tryz.underlying27 Tryz.sizeOf61 rfl ha7 rfl (by omega) rfl) ?_
    refine l_q (q_load_agg (cs := [vint (((rl).getD k rcd0).h), vint (((rl).getD k rcd0).st), vstr (((rl).getD k rcd0).s)]) (n := 3) Tryz.isAgg61 Tryz.sizeOf61 rfl ((cells_cast (wide_at RC.len rcd0 _ _ (by omega)) hh7)) rfl rfl) ?_
    refine l_o (o_buildSlice (el := 61) (cs := [vint (((rl).getD k rcd0).h), vint (((rl).getD k rcd0).st), vstr (((rl).getD k rcd0).s)]) Tryz.underlying27 el61 (by decide) (by kernel_rfl) rfl (by decide) rfl ?_)
    intro b8 w8 hzl8 hzr8 _ hb8 hE8 ho8
    have hne_b1_b8 : b1 ≠ b8 := by have := hb1.lt; omega
    have hne_b2_b8 : b2 ≠ b8 := by have := hb2.lt; omega
    have hbs_b8 : w.heap.size ≤ b8 := Nat.le_trans hsz hzl8
    replace hB := below_ext hB hE8 hsz
    replace hb1 := hb1.ext hE8
    replace hty_b1 := hty_b1.ext hE8
    replace hb2 := hb2.ext hE8
    replace hty_b2 := hty_b2.ext hE8
    replace hor := own_ext hor hE8
    replace hsz := Nat.le_trans hsz hE8.size
    refine l_o (o_append_wide RC.one (N) (([⟨((rl).getD k rcd0).h, ((rl).getD k rcd0).st, ((rl).getD k rcd0).s⟩] : List RC)) Tryz.underlying27 el61 rfl rfl hor rfl (Row.of_owns ho8) (by (try simp only [List.length_append, List.length_cons, List.length_nil, List.length_take, List.length_drop, List.length_replicate]); omega) (by omega) rfl ?_)
    intro a10 c10 w10 hz10 ho10 hG10
    replace hB := below_own hB hG10 hor (by omega) hsz
    replace hsz := Nat.le_trans hsz hG10.size
    replace hb1 := hb1.step hG10 (own_ty_ne hor hty_b1 (by decide))
    replace hb2 := hb2.step hG10 (own_ty_ne hor hty_b2 (by decide))
    replace hty_b1 := TyAt.own hty_b1 hor hG10 (by decide)
    replace hty_b2 := TyAt.own hty_b2 hor hG10 (by decide)
    refine l_q (q_assign (v := .slice _ _ _) rfl rfl) ?_
    refine l_nil ?_
    refine r_forget [(1, .slice _ _ _), (2, .pointer _), (4, .pointer _), (5, .slice _ _ _), (6, .int _ _)] ⟨rfl, rfl, rfl, rfl, rfl, trivial⟩ (fun e11 => ?_)
    refine r_inBlock (r_region' ?_)
    refine l_q (q_move (v := .int _ _) rfl rfl) ?_
    refine l_q (q_add rfl rfl (by omega) rfl) ?_
    refine l_q (q_assign (v := .int _ _) rfl rfl) ?_
    refine l_nil ?_
    exact ih3 (k + 1, a10, c10, (N ++ ([⟨((rl).getD k rcd0).h, ((rl).getD k rcd0).st, ((rl).getD k rcd0).s⟩] : List RC))) _ _ ⟨⟨rfl, rfl, rfl, rfl, (vint_eq (by omega)), trivial⟩, (by omega), (by rw [hN]; exact restK_y g17), ho10, hb1, hty_b1, hb2, hty_b2, hsz, hB⟩ (by first | omega | (dsimp only; omega))
   ·
    replace hc6 := nf hc6
    have g17 := hc6
    refine r_skip (r_inBlock (r_region' ?_))
    refine l_q (q_move (v := .int _ _) rfl rfl) ?_
    refine l_q (q_add rfl rfl (by omega) rfl) ?_
    refine l_q (q_assign (v := .int _ _) rfl rfl) ?_
    refine l_nil ?_
    refine r_forget [(1, .slice _ _ _), (2, .pointer _), (4, .pointer _), (5, .slice _ _ _), (6, .int _ _)] ⟨rfl, rfl, rfl, rfl, rfl, trivial⟩ (fun e12 => ?_)
    exact ih3 (k + 1, oa, oc, N) _ _ ⟨⟨rfl, rfl, rfl, rfl, (vint_eq (by omega)), trivial⟩, (by omega), (by rw [hN]; exact restK_n g17), hor, hb1, hty_b1, hb2, hty_b2, hsz, hB⟩ (by first | omega | (dsimp only; omega))
  ·
   replace hc4 := dlt hc4
   refine r_exit rfl ?_
   refine r_seq (r_region' ?_)
   refine l_q (q_move (v := .slice _ _ _) rfl rfl) ?_
   refine l_q (q_fieldAddr (o' := 4) rfl fld29_4 rfl) ?_
   refine l_o (o_storet (vs := [.slice oa N.length oc]) (cs' := [.slice ka co.length kc, vint er, .slice sa se.length sc, .slice ja sl.length jc, .slice oa N.length oc]) Tryz.sizeOf27 rfl rfl rfl rfl hb1 (Nat.le_of_ble_eq_true rfl) rfl rfl ?_)
   intro w13 hz13 hb1 hT13 hG13
   replace hB := below_upd hB hG13 hsz (by omega)
   replace hsz : w.heap.size ≤ w13.heap.size := by rw [hz13]; exact hsz
   replace hb2 := hb2.upd hG13 (by omega)
   replace hty_b2 := hty_b2.upd hG13 (by omega)
   replace hor := own_ty_upd hor hty_b1 hG13 (by decide)
   refine l_nil ?_
   refine r_forget [(2, .pointer _), (4, .pointer _)] ⟨rfl, rfl, trivial⟩ (fun e14 => ?_)
   refine r_seq (r_region' ?_)
   refine l_q (q_load_agg (n := 5) Tryz.isAgg29 Tryz.sizeOf29 rfl ((hb1.cells' (cs' := [_, _, _, _, _]) 0 5 rfl)) rfl rfl) ?_
   refine l_o (o_storet (vs := [.slice ka co.length kc, vint er, .slice sa se.length sc, .slice ja sl.length jc, .slice oa N.length oc]) (cs' := [.slice ka co.length kc, vint er, .slice sa se.length sc, .slice ja sl.length jc, .slice oa N.length oc]) Tryz.sizeOf29 rfl rfl rfl rfl hb2 (Nat.le_of_ble_eq_true rfl) rfl rfl ?_)
   intro w15 hz15 hb2 hT15 hG15
   replace hB := below_upd hB hG15 hsz (by omega)
   replace hsz : w.heap.size ≤ w15.heap.size := by rw [hz15]; exact hsz
   replace hor := own_ty_upd hor hty_b2 hG15 (by decide)
   refine l_nil ?_
   refine r_ret_ (vs := [.agg _]) rfl Tryz.func42 rfl (.nil _) ⟨⟨_, _, rfl, run_loadVarA Tryz.isAgg29 Tryz.sizeOf29 (hb2.cells' (cs' := [_, _, _, _, _]) 0 5 rfl) rfl⟩, trivial⟩ ?_
   obtain rfl : k = rl.length := by omega
   obtain rfl : N = restR xs rl := hN
   exact ⟨oa, oc, rfl, Row.of_owns hor, Ext.of_below hB⟩
end Go.Proofs.YtekkdhpgcilpdaaGreat
