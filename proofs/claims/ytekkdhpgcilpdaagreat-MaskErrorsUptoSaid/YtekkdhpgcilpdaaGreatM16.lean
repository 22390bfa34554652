/- Contracts. -/
import Derived.Test.YtekkdhpgcilpdaaGreatM15
set_option linter.unusedVariables false
set_option linter.unusedSimpArgs false
namespace Go.Proofs.YtekkdhpgcilpdaaGreat
open Go Go.RowKit Go.Gv Go.Fl
def wr (n : Int) : Int := IntKind.i64.wrap n
theorem q_addw {P : Program} {ops : Array Oper} {e : Env} {w : World} {d : Option Nat} {ty : TypeId} {pos : String} {af : Array Edge} {g : Option (Nat × Bool)} {t yt : TypeId} {x y : Operand} {a b : Int} (hx : ev e x = vint a) (hy : ev e y = vint b)
    (hw : wantedE ops e ⟨d, .binOp .add t x y yt, ty, pos, af, g⟩ = true) : QuietAt P ops e w ⟨d, .binOp .add t x y yt, ty, pos, af, g⟩ (vint (wr (a + b))) :=
  .inl ⟨hw, rfl, (by simp [execOp, hx, hy, eqGuard, binOp, Op.intArith, wr])⟩
theorem wr_rng (n : Int) : -9223372036854775808 ≤ wr n ∧ wr n ≤ 9223372036854775807 := by
  simp only [wr, IntKind.wrap, IntKind.signed, IntKind.bits]
  simp
  omega
theorem big_er {co : List Sg} {er er2 : Int} {se : List Int} {sl : List SN} {rl : List RC} (hb : LgBig co er se sl rl) (h : -9223372036854775808 ≤ er2 ∧ er2 ≤ 9223372036854775807) : LgBig co er2 se sl rl := ⟨hb.1, h, hb.2.2⟩
section
variable {co : List Sg} {er er2 : Int} {se : List Int} {sl : List SN} {rl : List RC} {k : Nat} {b : Int} {r : RC}
theorem wr_up (h : faultM (lg co er se sl rl) = 0) : wr (er + 1) = er + 1 := by
  have h1 := (lg_ok h).2.2.2.2.1
  exact wrap_in ⟨by have : 0 ≤ er := h1.1; omega, by have : er ≤ 3 := h1.2; omega⟩
theorem reads_up (h : er ≤ er2) {xs : List Int} {s : Sg} (h2 : readsB (lg co er se sl rl) xs s = true) : readsB (lg co er2 se sl rl) xs s = true := by
  unfold readsB lg at *
  rw [decide_eq_true_eq] at *
  dsimp only at *
  omega
theorem ownB_up (h : er ≤ er2) {x : Sn} (h2 : ownB (lg co er se sl rl) r x = true) : ownB (lg co er2 se sl rl) r x = true := by
  unfold ownB at *
  rw [Bool.and_eq_true] at *
  exact ⟨h2.1, reads_up h h2.2⟩
theorem falB_up (h : er ≤ er2) (h2 : falB (lg co er se sl rl) r = true) : falB (lg co er2 se sl rl) r = true := by
  unfold falB at *
  rw [List.any_eq_true] at *
  obtain ⟨t, h3, h4⟩ := h2
  exact ⟨t, h3, reads_up h h4⟩
theorem canB_up (h : er ≤ er2) (h2 : canB (lg co er se sl rl) k b = true) : canB (lg co er2 se sl rl) k b = true := by
  unfold canB at *
  split at h2
  · rename_i h3; rw [if_pos h3]; exact falB_up h h2
  · rename_i h3; rw [if_neg h3]; exact ownB_up h h2
theorem ownL_up (h : er ≤ er2) : (ownL (lg co er se sl rl) r).all (fun x => hasI (ownL (lg co er2 se sl rl) r) x) = true := by
  rw [List.all_eq_true]
  intro x hx
  unfold ownL at hx
  obtain ⟨i, hi, rfl⟩ := List.mem_map.1 hx
  unfold hasI
  rw [List.any_eq_true]
  refine ⟨(i : Int), ?_, decide_eq_true rfl⟩
  unfold ownL
  exact List.mem_map.2 ⟨i, List.mem_filter.2 ⟨(List.mem_filter.1 hi).1, ownB_up h (List.mem_filter.1 hi).2⟩, rfl⟩
theorem leav_0 {l : Lg} (h : faultM l = 0) : (leavW l).2 = 0 := by unfold leavW; rw [if_neg (fun h3 => h3 h)]
theorem leav_1 {l : Lg} (h : faultM l = 0) : (leavW l).1 = leaveM l := by unfold leavW; rw [if_neg (fun h3 => h3 h)]
theorem leave_is {l : Lg} : leaveA (leavQ (canB l) l.J.length l.R.length) l.R.length = some (leaveM l) := by
  obtain ⟨x, h1, _⟩ := leave_spec (Q := leavQ (canB l) l.J.length l.R.length) (n := l.R.length) leavQ_all
  unfold leaveM; rw [h1]; rfl
theorem leave_up (h : er ≤ er2) (h1 : faultM (lg co er se sl rl) = 0) (h2 : faultM (lg co er2 se sl rl) = 0) : (leavW (lg co er2 se sl rl)).1.length ≤ (leavW (lg co er se sl rl)).1.length := by
  rw [leav_1 h1, leav_1 h2]
  have h3 := (lg_ok h1).2.2.1
  exact leave_mono (can := canB (lg co er se sl rl)) (can' := canB (lg co er2 se sl rl)) (by omega) (fun r b _ _ hc => canB_up h hc) leave_is leave_is
end


theorem subset6_ret (xa : Option Addr) (xc : Nat) (xs : List Int) (ya : Option Addr) (yc : Nat) (ys : List Int) (w : World) (hx : Row w xa xs.length xc 1 (xs.map vint)) (hxn : xs.length ≤ 2097152) (hy : Row w ya ys.length yc 1 (ys.map vint)) (hyn : ys.length ≤ 2097152) : Ret Tryz.prog 38 [.slice xa xs.length xc, .slice ya ys.length yc] w (fun v w' => v = .bool (xs.all (fun x => hasI ys x)) ∧ Ext w w') := by
 have hB := Below.refl w.heap.size w
 have hsz : w.heap.size ≤ w.heap.size := Nat.le_refl _
 refine ret_of_runs (args := [_, _]) Tryz.func38 rfl (Nat.le_of_ble_eq_true rfl) (by kernel_rfl) ?_
 refine r_seq (r_region' ?_)
 refine l_q (q_assign (v := .bool _) rfl rfl) ?_
 refine l_nil (r_seq (r_seq (r_region' ?_)))
 refine l_q (q_assign (v := .int _ _) rfl rfl) ?_
 refine l_nil (r_block ?_)
 refine r_rounds (α := Nat) (fun k e wl => Knows e [(0, .slice xa xs.length xc), (1, .slice ya ys.length yc), (5, vint (k : Int))] ∧ (k ≤ xs.length) ∧ (∀ j, j < k → hasI ys (xs.getD j 0) = true) ∧ (w.heap.size ≤ wl.heap.size) ∧ (Below w.heap.size w wl)) (fun k => xs.length - k) 0 ?_ ?_
 ·
  exact ⟨⟨rfl, rfl, rfl, trivial⟩, (Nat.zero_le _), (fun i hi => absurd hi (Nat.not_lt_zero _)), hsz, hB⟩
 ·
  rintro k el1 wl1 ⟨hkn, hkk, hq, hsz, hB⟩ ih1
  obtain ⟨e1, rfl⟩ := knows_env hkn
  refine r_seq (r_seq (r_region' ?_))
  refine l_q (q_move (v := .int _ _) rfl rfl) ?_
  refine l_q (q_move (v := .slice _ _ _) rfl rfl) ?_
  refine l_q (q_len rfl Tryz.underlying25 rfl rfl) ?_
  refine l_q (q_lss rfl rfl rfl) ?_
  refine l_nil ?_
  refine r_cond rfl (fun hc2 => ?_) (fun hc2 => ?_)
  ·
   replace hc2 := dt hc2
   have hkx : k < xs.length := by omega
   refine r_skip (r_seq (r_block (r_seq (r_region' ?_))))
   refine l_q (q_move (v := .slice _ _ _) rfl rfl) ?_
   refine l_q (q_move (v := .slice _ _ _) rfl rfl) ?_
   refine l_q (q_move (v := .int _ _) rfl rfl) ?_
   obtain ⟨b3, o3, ha3, hh3⟩ := (hx.below hB).at1 k ((xs).getD k 0) (getD_some (by omega))
   refine l_q (q_indexAddr1 Tryz.underlying25 Tryz.sizeOf3 rfl ha3 rfl (by omega) rfl) ?_
   refine l_q (q_load Tryz.isAgg3 rfl (hh3) rfl) ?_
   refine l_o (o_call Tryz.call37 rfl (has6_ret _ _ ys _ _ (hy.below hB) (by omega)) rfl ?_)
   rintro _ w4 ⟨rfl, hE4⟩
   replace hB := below_ext hB hE4 hsz
   replace hsz := Nat.le_trans hsz hE4.size
   refine l_q (q_not rfl rfl) ?_
   refine l_nil ?_
   refine r_forget [(0, .slice _ _ _), (1, .slice _ _ _), (5, .int _ _), (18, .bool _)] ⟨rfl, rfl, rfl, rfl, trivial⟩ (fun e5 => ?_)
   refine r_cond rfl (fun hc6 => ?_) (fun hc6 => ?_)
   ·
    replace hc6 := nt hc6
    have g18 := hc6
    refine r_seq (r_region' ?_)
    refine l_q (q_assign (v := .bool _) rfl rfl) ?_
    refine l_nil ?_
    refine r_ret_ (vs := [.bool _]) rfl Tryz.func38 rfl (.nil _) ⟨rfl, trivial⟩ ?_
    exact ⟨vbool_eq (all_bad (d := 0) (k := k) hkx (by simpa using g18)).symm, Ext.of_below hB⟩
   ·
    replace hc6 := nf hc6
    have g18 := hc6
    refine r_skip (r_inBlock (r_region' ?_))
    refine l_q (q_move (v := .int _ _) rfl rfl) ?_
    refine l_q (q_add rfl rfl (by omega) rfl) ?_
    refine l_q (q_assign (v := .int _ _) rfl rfl) ?_
    refine l_nil ?_
    exact ih1 (k + 1) _ _ ⟨⟨rfl, rfl, (vint_eq (by omega)), trivial⟩, (by omega), (fun j hj => by rcases Nat.lt_succ_iff_lt_or_eq.1 hj with h | h; exact hq j h; subst h; simpa using g18), hsz, hB⟩ (by first | omega | (dsimp only; omega))
  ·
   replace hc2 := dlt hc2
   refine r_exit rfl ?_
   refine r_seq (r_region' ?_)
   refine l_q (q_assign (v := .bool _) rfl rfl) ?_
   refine l_nil ?_
   refine r_ret_ (vs := [.bool _]) rfl Tryz.func38 rfl (.nil _) ⟨rfl, trivial⟩ ?_
   exact ⟨vbool_eq (all_getD (d := 0) (fun j hj => hq j (by omega))).symm, Ext.of_below hB⟩
end Go.Proofs.YtekkdhpgcilpdaaGreat
