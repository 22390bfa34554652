/- Contracts. -/
import Derived.Test.YtekkdhpgcilpdaaGreatM3
set_option linter.unusedVariables false
set_option linter.unusedSimpArgs false
namespace Go.Proofs.YtekkdhpgcilpdaaGreat
open Go Go.RowKit Go.Gv Go.Fl
theorem own_ne_loop {w : World} {base e size n l n' : Nat} {v : Value} {xs : List Value} {s : LoopState} {p : Option Code} {f : FuncId} {en : Env} {ps : List Tmp} {x y : Code} (h : w.ownsRow base e size v n xs) (hl : LoopAt w l s p f n' en ps x y) : ∀ g : Nat, v.ownBlock = some g → g ≠ l := by
  intro g hg he
  rw [he] at hg
  obtain ⟨_, _, hl, _⟩ := hl
  rcases h.2 with ⟨rfl, _⟩ | ⟨g', cap, cur, rfl, _, hb, _⟩
  · cases hg
  · obtain rfl : g' = l := by simpa [Value.ownBlock] using hg
    rw [show w.heap[g']? = _ from hl] at hb; cases hb

theorem own_ne_def {w : World} {base e size n db : Nat} {v : Value} {xs : List Value} {D : List Deferred} (h : w.ownsRow base e size v n xs) (hd : w.heap[db]? = some (.deferred (some D))) : ∀ g : Nat, v.ownBlock = some g → g ≠ db := by
  intro g hg he
  subst he
  rcases h.2 with ⟨rfl, _⟩ | ⟨g', cap', cur, rfl, _, hg2, _⟩
  · cases hg
  · simp only [Value.ownBlock, Option.some.injEq] at hg
    subst hg
    rw [hd] at hg2
    cases hg2
theorem row_other {w w' : World} {a : Option Addr} {n c sz l : Nat} {cs : List Value} (h : Row w a n c sz cs) (hG : w.grownBy w' (some l)) (hl : ∀ c e q, w.heap[l]? ≠ some (.cells c e q)) : Row w' a n c sz cs := by
  refine ⟨h.1, h.2.1, ?_⟩
  rcases h.2.2 with h0 | ⟨b, o, ha, hc⟩
  · exact .inl h0
  · refine .inr ⟨b, o, ha, fun j v hj => ?_⟩
    have h1 := hc j v hj
    have h2 : w'.heap[b]? = w.heap[b]? := by
      have h3 : ∃ c e q, w.heap[b]? = some (.cells c e q) := by
        unfold Has World.cell? at h1
        cases h4 : w.heap[b]? with
        | none => simp [h4] at h1
        | some x => cases x <;> simp [h4] at h1 <;> exact ⟨_, _, _, rfl⟩
      obtain ⟨c, e, q, h3⟩ := h3
      exact hG.block b (heap_lt h3) (fun he => by
        have e1 : b = l := by simpa using he
        subst e1
        exact hl _ _ _ h3)
    unfold Has World.cell? at h1 ⊢
    rw [h2]; exact h1
theorem row_loop {w w' : World} {a : Option Addr} {n c sz l n' : Nat} {cs : List Value} {s : LoopState} {p : Option Code} {f : FuncId} {e : Env} {ps : List Tmp} {x y : Code} (h : Row w a n c sz cs) (hG : w.grownBy w' (some l)) (hl : LoopAt w l s p f n' e ps x y) : Row w' a n c sz cs := row_other h hG (fun c1 e1 q1 h1 => by
  obtain ⟨t, db, h2, _⟩ := hl
  rw [h1] at h2
  cases h2)
theorem row_def {w w' : World} {a : Option Addr} {n c sz db : Nat} {cs : List Value} {D : List Deferred} (h : Row w a n c sz cs) (hG : w.grownBy w' (some db)) (hd : w.heap[db]? = some (.deferred (some D))) : Row w' a n c sz cs := row_other h hG (fun c1 e1 q1 h1 => by
  rw [h1] at hd
  cases hd)
section
variable {co : List Sg} {er : Int} {se : List Int} {sl : List SN} {rl : List RC} {r : RC} {k : Nat} {bf : Int} {t : List Int}
theorem mem_pl : t ∈ plS se sl bf ↔ ∃ s ∈ sl, heardB se s.pn bf = true ∧ IsSub t s.xs := by
  unfold plS
  rw [List.mem_flatMap]
  constructor
  · rintro ⟨s, hs, h⟩
    split at h
    · rename_i h1; exact ⟨s, hs, h1, mem_subs.1 h⟩
    · cases h
  · rintro ⟨s, hs, h1, h2⟩
    exact ⟨s, hs, by rw [if_pos h1]; exact mem_subs.2 h2⟩
theorem sub_text {xs : List Int} (h : IsSub t xs) (hx : isText co xs = true) : isText co t = true := by
  obtain ⟨_, lo, _, h2⟩ := h
  rw [isText_iff] at hx ⊢
  intro x hx2
  rw [h2] at hx2
  unfold subOf at hx2
  exact hx x (List.mem_of_mem_take (List.mem_of_mem_drop hx2))
theorem pl_ok (hJn : ∀ x ∈ (lg co er se sl rl).J, (0 ≤ x.h ∧ x.h ≤ 23) ∧ (0 ≤ x.st ∧ x.st ≤ ((lg co er se sl rl).se.length : Int) - 1) ∧ (1 ≤ x.xs.length ∧ x.xs.length ≤ 5) ∧ isText (lg co er se sl rl).co x.xs = true) (h : (plS se sl bf)[k]? = some t) : 0 < t.length ∧ t.length ≤ 5 ∧ isText co t = true := by
  obtain ⟨s, hs, _, h2⟩ := mem_pl.1 (List.mem_of_getElem? h)
  obtain ⟨_, _, ⟨_, h4⟩, h5⟩ := hJn _ (List.mem_map.2 ⟨s, hs, rfl⟩)
  have h6 := h2
  obtain ⟨h7, lo, h8, _⟩ := h2
  have h4 : s.xs.length ≤ 5 := h4
  exact ⟨h7, by omega, sub_text h6 h5⟩
theorem getD_of {l : List (List Int)} (h : l[k]? = some t) : l.getD k [] = t := by rw [List.getD_eq_getElem?_getD, h]; rfl
theorem no_next {l : List (List Int)} {q : List Int → Bool} (hno : ∀ j, j < k → q (l.getD j []) = false) (h : l[k]? = some t) (hq : q t = false) : ∀ j, j < k + 1 → q (l.getD j []) = false := fun j hj => by
  rcases Nat.lt_succ_iff_lt_or_eq.1 hj with h1 | rfl
  · exact hno j h1
  · rw [getD_of h]; exact hq
theorem fal_yes (h : (plS se sl r.h)[k]? = some t) (hq : readsB (lg co er se sl rl) t r.s = true) : falB (lg co er se sl rl) r = true := by
  unfold falB
  rw [plS_eq, List.any_eq_true]
  exact ⟨t, List.mem_of_getElem? h, hq⟩
theorem fal_none (hno : ∀ j, j < (plS se sl r.h).length → readsB (lg co er se sl rl) ((plS se sl r.h).getD j []) r.s = false) : falB (lg co er se sl rl) r = false := by
  unfold falB
  rw [plS_eq]
  exact any_none (d := []) hno
end


theorem mfalsely_ret (ka : Option Addr) (kc : Nat) (co : List Sg) (er : Int) (sa : Option Addr) (sc : Nat) (se : List Int) (ja : Option Addr) (jc : Nat) (sl : List SN) (ra : Option Addr) (rc : Nat) (rl : List RC) (n : Nat) (w : World) (hlg : LgAt w ka kc co sa sc se ja jc sl ra rc rl) (hbg : LgBig co er se sl rl) (hok : faultM (lg co er se sl rl) = 0) (hn : n < rl.length) : Ret Tryz.prog 95 [.agg ⟨[.slice ka co.length kc, vint er, .slice sa se.length sc, .slice ja sl.length jc, .slice ra rl.length rc]⟩, vint (n : Int)] w (fun v w' => ∃ fa fc, v = .slice fa (if falB (lg co er se sl rl) (rl.getD n rcd0) = true then [(-1 : Int)] else []).length fc ∧ Row w' fa (if falB (lg co er se sl rl) (rl.getD n rcd0) = true then [(-1 : Int)] else []).length fc 1 ((if falB (lg co er se sl rl) (rl.getD n rcd0) = true then [(-1 : Int)] else []).map vint) ∧ Ext w w') := by
 obtain ⟨⟨hcn, hcl⟩, hen, hsn, ⟨hjn, hjl⟩, hrn, hrl⟩ := id hbg
 obtain ⟨⟨hs1, hs4⟩, hj8, hr6, hf0, ⟨he0, he3⟩, hsr, hJn, hRn⟩ := lg_ok hok
 obtain ⟨⟨hrh0, hrh⟩, ⟨hrs0, hrs⟩, hrsf⟩ := hRn _ (getD_lt (d := rcd0) hn)
 have hB := Below.refl w.heap.size w
 have hsz : w.heap.size ≤ w.heap.size := Nat.le_refl _
 refine ret_of_runs (args := [_, _]) Tryz.func95 rfl (Nat.le_of_ble_eq_true rfl) (by kernel_rfl) (r_seq (r_region' (l_o (o_boxt rfl rfl rfl ?_))))
 intro b1 w1 hzl1 hzr1 _ hb1 hty_b1 hE1
 have hbs_b1 : w.heap.size ≤ b1 := Nat.le_trans hsz hzl1
 replace hB := below_ext hB hE1 hsz
 replace hsz := Nat.le_trans hsz hE1.size
 refine l_o (o_alloct Tryz.zeroValue25 rfl rfl ?_)
 intro b2 w2 hzl2 hzr2 _ hb2 hty_b2 hE2
 have hne_b1_b2 : b1 ≠ b2 := by have := hb1.lt; omega
 have hbs_b2 : w.heap.size ≤ b2 := Nat.le_trans hsz hzl2
 replace hB := below_ext hB hE2 hsz
 replace hb1 := hb1.ext hE2
 replace hty_b1 := hty_b1.ext hE2
 replace hsz := Nat.le_trans hsz hE2.size
 refine l_nil (r_seq (r_region' (l_q (q_fieldAddr (o' := 4) rfl fld38_4 rfl) (l_q (q_load Tryz.isAgg36 rfl ((hb1.has (o := 4) rfl)) rfl) (l_q (qmi rfl rfl) ?_)))))
 obtain ⟨b3, o3, ha3, hh3⟩ := (hlg.rrl.below hB).at (by decide) n (by omega)
 refine l_q (q_indexAddr Tryz.underlying36 Tryz.sizeOf75 rfl ha3 rfl (by omega) rfl) (l_q (q_load_agg (cs := [vint (((rl).getD n rcd0).h), vint (((rl).getD n rcd0).st), vstr (((rl).getD n rcd0).s)]) (n := 3) Tryz.isAgg75 Tryz.sizeOf75 rfl ((cells_cast (wide_at RC.len rcd0 _ _ (by omega)) hh3)) rfl rfl) (l_o (o_alloct Tryz.zeroValue75 rfl rfl ?_)))
 intro b4 w4 hzl4 hzr4 _ hb4 hty_b4 hE4
 have hne_b1_b4 : b1 ≠ b4 := by have := hb1.lt; omega
 have hne_b2_b4 : b2 ≠ b4 := by have := hb2.lt; omega
 have hbs_b4 : w.heap.size ≤ b4 := Nat.le_trans hsz hzl4
 replace hB := below_ext hB hE4 hsz
 replace hb1 := hb1.ext hE4
 replace hty_b1 := hty_b1.ext hE4
 replace hb2 := hb2.ext hE4
 replace hty_b2 := hty_b2.ext hE4
 replace hsz := Nat.le_trans hsz hE4.size
 refine l_o (o_storet (vs := [vint (((rl).getD n rcd0).h), vint (((rl).getD n rcd0).st), vstr (((rl).getD n rcd0).s)]) (cs' := [vint (((rl).getD n rcd0).h), vint (((rl).getD n rcd0).st), vstr (((rl).getD n rcd0).s)]) Tryz.sizeOf75 rfl rfl rfl rfl hb4 (Nat.le_of_ble_eq_true rfl) rfl rfl ?_)
 intro w5 hz5 hb4 hT5 hG5
 replace hB := below_upd hB hG5 hsz (by omega)
 replace hsz : w.heap.size ≤ w5.heap.size := by rw [hz5]; exact hsz
 replace hb1 := hb1.upd hG5 (by omega)
 replace hty_b1 := hty_b1.upd hG5 (by omega)
 replace hb2 := hb2.upd hG5 (by omega)
 replace hty_b2 := hty_b2.upd hG5 (by omega)
 replace hty_b4 := hT5 _ hty_b4
 refine l_nil (r_seq (r_seq (r_region' (l_q (q_load_agg (n := 5) Tryz.isAgg38 Tryz.sizeOf38 rfl ((hb1.cells' (cs' := [_, _, _, _, _]) 0 5 rfl)) rfl rfl) (l_q (q_fieldAddr (o' := 0) rfl fld75_0 rfl) (l_q (q_load Tryz.isAgg3 rfl ((hb4.has (o := 0) rfl)) rfl) (l_o (o_call Tryz.call99 rfl (mparts_ret ka kc co er sa sc se ja jc sl ra rc rl (((rl).getD n rcd0).h) _) rfl ?_))))))))
 rintro _ w6 ⟨bx6, by6, rfl, ⟨hbx6, hby6⟩, hpx6, hpy6, hty_bx6, hty_by6, hE6⟩
 have hne_b1_bx6 : b1 ≠ bx6 := by have := hb1.lt; omega
 have hne_b1_by6 : b1 ≠ by6 := by have := hb1.lt; omega
 have hne_b2_bx6 : b2 ≠ bx6 := by have := hb2.lt; omega
 have hne_b2_by6 : b2 ≠ by6 := by have := hb2.lt; omega
 have hne_b4_bx6 : b4 ≠ bx6 := by have := hb4.lt; omega
 have hne_b4_by6 : b4 ≠ by6 := by have := hb4.lt; omega
 have hbs_bx6 : w.heap.size ≤ bx6 := by omega
 have hbs_by6 : w.heap.size ≤ by6 := by omega
 replace hB := below_ext hB hE6 hsz
 replace hb1 := hb1.ext hE6
 replace hty_b1 := hty_b1.ext hE6
 replace hb2 := hb2.ext hE6
 replace hty_b2 := hty_b2.ext hE6
 replace hb4 := hb4.ext hE6
 replace hty_b4 := hty_b4.ext hE6
 replace hsz := Nat.le_trans hsz hE6.size
 refine l_nil (r_forget [(2, .pointer _), (4, .pointer _), (5, .pointer _), (15, .func _ _ _)] ⟨rfl, rfl, rfl, rfl, trivial⟩ (fun e7 => (r_block (r_rangeFunc' (fst := []) (cap := [_, _]) rfl rfl Tryz.call128 ?_))))
 intro l db wl Lp hLp hLk hEl hll hldb hlne hdbN hlN hdb hlp
 have hlt_b1 := hb1.lt
 have hlt_b2 := hb2.lt
 have hlt_b4 := hb4.lt
 have hlt_bx6 := hpx6.lt
 have hlt_by6 := hpy6.lt
 have hszl := hEl.size
 replace hB := below_ext hB hEl hsz
 replace hb1 := hb1.ext hEl
 replace hty_b1 := hty_b1.ext hEl
 replace hb2 := hb2.ext hEl
 replace hty_b2 := hty_b2.ext hEl
 replace hb4 := hb4.ext hEl
 replace hty_b4 := hty_b4.ext hEl
 replace hpx6 := hpx6.ext hEl
 replace hty_bx6 := hty_bx6.ext hEl
 replace hpy6 := hpy6.ext hEl
 replace hty_by6 := hty_by6.ext hEl
 replace hsz := Nat.le_trans hsz hEl.size
 have hbs_l : w.heap.size ≤ l := by omega
 have hbs_db : w.heap.size ≤ db := by omega
 have hJ0 : (fun (k : Nat) wq => (Blk wq b1 [.slice ka co.length kc, vint er, .slice sa se.length sc, .slice ja sl.length jc, .slice ra rl.length rc]) ∧ (TyAt wq b1 38) ∧ (Blk wq b2 [.slice none 0 0]) ∧ (TyAt wq b2 25) ∧ (Blk wq b4 [vint (((rl).getD n rcd0).h), vint (((rl).getD n rcd0).st), vstr (((rl).getD n rcd0).s)]) ∧ (TyAt wq b4 75) ∧ (Blk wq bx6 [.slice ka co.length kc, vint er, .slice sa se.length sc, .slice ja sl.length jc, .slice ra rl.length rc]) ∧ (TyAt wq bx6 38) ∧ (Blk wq by6 [vint (((rl).getD n rcd0).h)]) ∧ (TyAt wq by6 3) ∧ (Lp wq .ready none) ∧ (wq.heap[db]? = some (.deferred (some []))) ∧ (Below w.heap.size w wq) ∧ (∀ j, j < k → readsB (lg co er se sl rl) ((plS se sl ((rl.getD n rcd0).h)).getD j []) (rl.getD n rcd0).s = false)) 0 wl := ⟨hb1, hty_b1, hb2, hty_b2, hb4, hty_b4, hpx6, hty_bx6, hpy6, hty_by6, hlp, hdb, hB, (fun j hj => absurd hj (Nat.not_lt_zero _))⟩
 have hJs : ∀ k w1 w2, (fun (k : Nat) wq => (Blk wq b1 [.slice ka co.length kc, vint er, .slice sa se.length sc, .slice ja sl.length jc, .slice ra rl.length rc]) ∧ (TyAt wq b1 38) ∧ (Blk wq b2 [.slice none 0 0]) ∧ (TyAt wq b2 25) ∧ (Blk wq b4 [vint (((rl).getD n rcd0).h), vint (((rl).getD n rcd0).st), vstr (((rl).getD n rcd0).s)]) ∧ (TyAt wq b4 75) ∧ (Blk wq bx6 [.slice ka co.length kc, vint er, .slice sa se.length sc, .slice ja sl.length jc, .slice ra rl.length rc]) ∧ (TyAt wq bx6 38) ∧ (Blk wq by6 [vint (((rl).getD n rcd0).h)]) ∧ (TyAt wq by6 3) ∧ (Lp wq .ready none) ∧ (wq.heap[db]? = some (.deferred (some []))) ∧ (Below w.heap.size w wq) ∧ (∀ j, j < k → readsB (lg co er se sl rl) ((plS se sl ((rl.getD n rcd0).h)).getD j []) (rl.getD n rcd0).s = false)) k w1 → Ext w1 w2 → (fun (k : Nat) wq => (Blk wq b1 [.slice ka co.length kc, vint er, .slice sa se.length sc, .slice ja sl.length jc, .slice ra rl.length rc]) ∧ (TyAt wq b1 38) ∧ (Blk wq b2 [.slice none 0 0]) ∧ (TyAt wq b2 25) ∧ (Blk wq b4 [vint (((rl).getD n rcd0).h), vint (((rl).getD n rcd0).st), vstr (((rl).getD n rcd0).s)]) ∧ (TyAt wq b4 75) ∧ (Blk wq bx6 [.slice ka co.length kc, vint er, .slice sa se.length sc, .slice ja sl.length jc, .slice ra rl.length rc]) ∧ (TyAt wq bx6 38) ∧ (Blk wq by6 [vint (((rl).getD n rcd0).h)]) ∧ (TyAt wq by6 3) ∧ (Lp wq .ready none) ∧ (wq.heap[db]? = some (.deferred (some []))) ∧ (Below w.heap.size w wq) ∧ (∀ j, j < k → readsB (lg co er se sl rl) ((plS se sl ((rl.getD n rcd0).h)).getD j []) (rl.getD n rcd0).s = false)) k w2 := fun k w1 w2 hJ hE2 => by
   obtain ⟨q0, q1, q2, q3, q4, q5, q6, q7, q8, q9, q10, q11, q12, q13⟩ := hJ
   exact ⟨(q0.ext hE2), (q1.ext hE2), (q2.ext hE2), (q3.ext hE2), (q4.ext hE2), (q5.ext hE2), (q6.ext hE2), (q7.ext hE2), (q8.ext hE2), (q9.ext hE2), (hLk _ _ _ _ q10 (hE2.block l (((hLp _ _ _).1 q10).lt) (by simp))), ((hE2.block db (heap_lt q11) (by simp)).trans q11), (below_ext q12 hE2 q12.size), q13⟩
 refine (mparts1_ret l bx6 by6 ka kc co er sa sc se ja jc sl ra rc rl ((rl.getD n rcd0).h) (fun (k : Nat) wq => (Blk wq b1 [.slice ka co.length kc, vint er, .slice sa se.length sc, .slice ja sl.length jc, .slice ra rl.length rc]) ∧ (TyAt wq b1 38) ∧ (Blk wq b2 [.slice none 0 0]) ∧ (TyAt wq b2 25) ∧ (Blk wq b4 [vint (((rl).getD n rcd0).h), vint (((rl).getD n rcd0).st), vstr (((rl).getD n rcd0).s)]) ∧ (TyAt wq b4 75) ∧ (Blk wq bx6 [.slice ka co.length kc, vint er, .slice sa se.length sc, .slice ja sl.length jc, .slice ra rl.length rc]) ∧ (TyAt wq bx6 38) ∧ (Blk wq by6 [vint (((rl).getD n rcd0).h)]) ∧ (TyAt wq by6 3) ∧ (Lp wq .ready none) ∧ (wq.heap[db]? = some (.deferred (some []))) ∧ (Below w.heap.size w wq) ∧ (∀ j, j < k → readsB (lg co er se sl rl) ((plS se sl ((rl.getD n rcd0).h)).getD j []) (rl.getD n rcd0).s = false)) (fun wq => ∃ fa fc, (Lp wq .done (some (.ret))) ∧ (wq.heap[db]? = some (.deferred (some []))) ∧ (Below w.heap.size w wq) ∧ (Blk wq b2 [.slice fa 1 fc]) ∧ (Row wq fa 1 fc 1 ([(-1 : Int)].map vint)) ∧ (falB (lg co er se sl rl) (rl.getD n rcd0) = true)) wl hbg (fun x hx => (hJn _ (List.mem_map.2 ⟨x, hx, rfl⟩)).2.1) hJ0 (fun k w1 hJ => by obtain ⟨hb1, hty_b1, hb2, hty_b2, hb4, hty_b4, hpx6, hty_bx6, hpy6, hty_by6, hlp, hdb, hB, hno⟩ := hJ; exact ⟨hpx6, hpy6, hlg.below hB⟩) hJs ?_).mono ?_
 · intro k w1 t ya yc hpl hJ hN hrow
   obtain ⟨hb1, hty_b1, hb2, hty_b2, hb4, hty_b4, hpx6, hty_bx6, hpy6, hty_by6, hlp, hdb, hB, hno⟩ := hJ
   refine yieldAt_of ((hLp _ _ _).1 hlp) rfl (by rfl) (by kernel_rfl) ?_
   have hsz : w.heap.size ≤ w1.heap.size := by omega
   have hF := FrT.refl 76 w1
   have hszr : w1.heap.size ≤ w1.heap.size := Nat.le_refl _
   obtain ⟨ht0, ht5, htx⟩ := pl_ok hJn hpl
   refine r_forget [(2, ptr b1 0), (4, ptr b2 0), (5, ptr b4 0), (16, .slice ya ((t).length) yc)] ⟨rfl, rfl, rfl, rfl, trivial⟩ (fun e8 => (r_region' (l_q (qas rfl rfl) (l_nil (r_begin rfl ((hLp _ _ _).1 hlp) ?_)))))
   intro wb9 hzb9 hgb9 hl9
   replace hB := below_upd hB hgb9 hsz hbs_l
   replace hsz : w.heap.size ≤ wb9.heap.size := by rw [hzb9]; exact hsz
   replace hb1 := hb1.upd hgb9 (by omega)
   replace hty_b1 := hty_b1.upd hgb9 (by omega)
   replace hb2 := hb2.upd hgb9 (by omega)
   replace hty_b2 := hty_b2.upd hgb9 (by omega)
   replace hb4 := hb4.upd hgb9 (by omega)
   replace hty_b4 := hty_b4.upd hgb9 (by omega)
   replace hpx6 := hpx6.upd hgb9 (by omega)
   replace hty_bx6 := hty_bx6.upd hgb9 (by omega)
   replace hpy6 := hpy6.upd hgb9 (by omega)
   replace hty_by6 := hty_by6.upd hgb9 (by omega)
   replace hdb := (hgb9.block db (heap_lt hdb) (by simp; omega)).trans hdb
   replace hF := (by first | exact FrT.upd hF hgb9 hty_l (by decide) | exact FrT.loop hF hgb9 ((hLp _ _ _).1 hlp))
   replace hszr := Nat.le_trans hszr hgb9.size
   replace hrow := (by first | exact row_loop hrow hgb9 ((hLp _ _ _).1 hlp) | exact row_def hrow hgb9 hdb)
   have hlp := (hLp _ _ _).2 hl9
   refine r_block (r_seq (r_region' (l_q (q_load_agg (n := 5) Tryz.isAgg38 Tryz.sizeOf38 rfl ((hb1.cells' (cs' := [_, _, _, _, _]) 0 5 rfl)) rfl rfl) (l_q (qms rfl rfl) (l_q (q_fieldAddr (o' := 2) rfl fld75_2 rfl) (l_q (q_load Tryz.isAgg9 rfl ((hb4.has (o := 2) rfl)) rfl) (l_o (o_call Tryz.call69 rfl (mreads_ret ka kc co er sa sc se ja jc sl ra rc rl ya yc t (rl.getD n rcd0).s _ (hlg.below hB) hbg hrow (by omega) hf0 he3 ht5 htx hrsf) rfl ?_))))))))
   rintro _ w10 ⟨rfl, hE10⟩
   replace hB := below_ext hB hE10 hsz
   replace hb1 := hb1.ext hE10
   replace hty_b1 := hty_b1.ext hE10
   replace hb2 := hb2.ext hE10
   replace hty_b2 := hty_b2.ext hE10
   replace hb4 := hb4.ext hE10
   replace hty_b4 := hty_b4.ext hE10
   replace hpx6 := hpx6.ext hE10
   replace hty_bx6 := hty_bx6.ext hE10
   replace hpy6 := hpy6.ext hE10
   replace hty_by6 := hty_by6.ext hE10
   replace hdb := (hE10.block db (heap_lt hdb) (by simp)).trans hdb
   replace hF := hF.trans (FrT.of_ext hE10)
   replace hszr := Nat.le_trans hszr hE10.size
   replace hlp := hLk _ _ _ _ hlp (hE10.block l (((hLp _ _ _).1 hlp).lt) (by simp))
   replace hsz := Nat.le_trans hsz hE10.size
   refine l_nil (r_cond rfl (fun hc11 => ?_) (fun hc11 => ?_))
   ·
    have g21 := hc11
    refine r_seq (r_region' (l_o (o_buildSlice (el := 3) (cs := [vint (-1)]) Tryz.underlying25 el3 (by decide) (by kernel_rfl) rfl (by decide) rfl ?_)))
    intro b12 w12 hzl12 hzr12 _ hb12 hE12 ho12
    have hne_b1_b12 : b1 ≠ b12 := by have := hb1.lt; omega
    have hne_b2_b12 : b2 ≠ b12 := by have := hb2.lt; omega
    have hne_b4_b12 : b4 ≠ b12 := by have := hb4.lt; omega
    have hne_bx6_b12 : bx6 ≠ b12 := by have := hpx6.lt; omega
    have hne_by6_b12 : by6 ≠ b12 := by have := hpy6.lt; omega
    have hbs_b12 : w.heap.size ≤ b12 := Nat.le_trans hsz hzl12
    replace hB := below_ext hB hE12 hsz
    replace hb1 := hb1.ext hE12
    replace hty_b1 := hty_b1.ext hE12
    replace hb2 := hb2.ext hE12
    replace hty_b2 := hty_b2.ext hE12
    replace hb4 := hb4.ext hE12
    replace hty_b4 := hty_b4.ext hE12
    replace hpx6 := hpx6.ext hE12
    replace hty_bx6 := hty_bx6.ext hE12
    replace hpy6 := hpy6.ext hE12
    replace hty_by6 := hty_by6.ext hE12
    replace hdb := (hE12.block db (heap_lt hdb) (by simp)).trans hdb
    replace hF := hF.trans (FrT.of_ext hE12)
    replace hszr := Nat.le_trans hszr hE12.size
    replace hlp := hLk _ _ _ _ hlp (hE12.block l (((hLp _ _ _).1 hlp).lt) (by simp))
    replace hsz := Nat.le_trans hsz hE12.size
    refine l_o (o_storet (vs := [.slice (some ⟨b12, 0, none⟩) 1 1]) (cs' := [.slice (some ⟨b12, 0, none⟩) 1 1]) Tryz.sizeOf25 rfl rfl rfl rfl hb2 (Nat.le_of_ble_eq_true rfl) rfl rfl ?_)
    intro w13 hz13 hb2 hT13 hG13
    replace hB := below_upd hB hG13 hsz (by omega)
    replace hsz : w.heap.size ≤ w13.heap.size := by rw [hz13]; exact hsz
    replace hb1 := hb1.upd hG13 (by omega)
    replace hty_b1 := hty_b1.upd hG13 (by omega)
    replace hb4 := hb4.upd hG13 (by omega)
    replace hty_b4 := hty_b4.upd hG13 (by omega)
    replace hpx6 := hpx6.upd hG13 (by omega)
    replace hty_bx6 := hty_bx6.upd hG13 (by omega)
    replace hpy6 := hpy6.upd hG13 (by omega)
    replace hty_by6 := hty_by6.upd hG13 (by omega)
    replace hdb := (hG13.block db (heap_lt hdb) (by simp; omega)).trans hdb
    replace hF := (by first | exact FrT.upd hF hG13 hty_b2 (by decide) | exact FrT.loop hF hG13 ((hLp _ _ _).1 hlp))
    replace hszr := Nat.le_trans hszr hG13.size
    replace hlp := hLk _ _ _ _ hlp (hG13.block l (((hLp _ _ _).1 hlp).lt) (by simp; omega))
    replace ho12 := own_ty_upd ho12 hty_b2 hG13 (by decide)
    replace hty_b2 := hT13 _ hty_b2
    refine l_nil (r_forget [(4, .pointer _)] ⟨rfl, trivial⟩ (fun e14 => (r_round_ret rfl ((hLp _ _ _).1 hlp) ?_)))
    intro we15 hze15 hge15 hl15
    replace hB := below_upd hB hge15 hsz hbs_l
    replace hsz : w.heap.size ≤ we15.heap.size := by rw [hze15]; exact hsz
    replace hb1 := hb1.upd hge15 (by omega)
    replace hty_b1 := hty_b1.upd hge15 (by omega)
    replace hb2 := hb2.upd hge15 (by omega)
    replace hty_b2 := hty_b2.upd hge15 (by omega)
    replace hb4 := hb4.upd hge15 (by omega)
    replace hty_b4 := hty_b4.upd hge15 (by omega)
    replace hpx6 := hpx6.upd hge15 (by omega)
    replace hty_bx6 := hty_bx6.upd hge15 (by omega)
    replace hpy6 := hpy6.upd hge15 (by omega)
    replace hty_by6 := hty_by6.upd hge15 (by omega)
    replace hdb := (hge15.block db (heap_lt hdb) (by simp; omega)).trans hdb
    replace hF := (by first | exact FrT.upd hF hge15 hty_l (by decide) | exact FrT.loop hF hge15 ((hLp _ _ _).1 hlp))
    replace hszr := Nat.le_trans hszr hge15.size
    replace ho12 := own_updne ho12 hge15 (own_ne_loop ho12 ((hLp _ _ _).1 hlp))
    have hlp := (hLp _ _ _).2 hl15
    exact ⟨false, rfl, (fun h => by cases h), fun _ => ⟨_, _, hlp, hdb, hB, hb2, (Row.of_owns ho12), (fal_yes hpl g21)⟩, hF, hszr⟩
   ·
    have g21 := hc11
    refine r_skip (r_inBlock (r_round_end rfl ((hLp _ _ _).1 hlp) ?_))
    intro we16 hze16 hge16 hl16
    replace hB := below_upd hB hge16 hsz hbs_l
    replace hsz : w.heap.size ≤ we16.heap.size := by rw [hze16]; exact hsz
    replace hb1 := hb1.upd hge16 (by omega)
    replace hty_b1 := hty_b1.upd hge16 (by omega)
    replace hb2 := hb2.upd hge16 (by omega)
    replace hty_b2 := hty_b2.upd hge16 (by omega)
    replace hb4 := hb4.upd hge16 (by omega)
    replace hty_b4 := hty_b4.upd hge16 (by omega)
    replace hpx6 := hpx6.upd hge16 (by omega)
    replace hty_bx6 := hty_bx6.upd hge16 (by omega)
    replace hpy6 := hpy6.upd hge16 (by omega)
    replace hty_by6 := hty_by6.upd hge16 (by omega)
    replace hdb := (hge16.block db (heap_lt hdb) (by simp; omega)).trans hdb
    replace hF := (by first | exact FrT.upd hF hge16 hty_l (by decide) | exact FrT.loop hF hge16 ((hLp _ _ _).1 hlp))
    replace hszr := Nat.le_trans hszr hge16.size
    have hlp := (hLp _ _ _).2 hl16
    exact ⟨true, rfl, fun _ => ⟨hb1, hty_b1, hb2, hty_b2, hb4, hty_b4, hpx6, hty_bx6, hpy6, hty_by6, hlp, hdb, hB, (no_next (q := fun t => readsB (lg co er se sl rl) t (rl.getD n rcd0).s) hno hpl g21)⟩, (fun h => by cases h), hF, hszr⟩
 · rintro _ w2 (hJ | hJ)
   ·
    obtain ⟨hb1, hty_b1, hb2, hty_b2, hb4, hty_b4, hpx6, hty_bx6, hpy6, hty_by6, hlp, hdb, hB, hno⟩ := hJ
    refine ⟨.ready, none, (by decide), hlp, rfl, ?_⟩
    intro w3 hz3 hg3
    have hsz2 : w.heap.size ≤ w2.heap.size := hB.size
    replace hB := below_upd hB hg3 hsz2 hbs_l
    have hsz : w.heap.size ≤ w3.heap.size := by rw [hz3]; exact hsz2
    replace hb2 := hb2.upd hg3 (by omega)
    replace hb4 := hb4.upd hg3 (by omega)
    replace hdb := (hg3.block db (heap_lt hdb) (by simp; omega)).trans hdb
    refine r_inBlock (r_seq (r_region' (l_o (o_storet (vs := [.slice none 0 0]) (cs' := [.slice none 0 0]) Tryz.sizeOf25 rfl rfl rfl rfl hb2 (Nat.le_of_ble_eq_true rfl) rfl rfl ?_))))
    intro w17 hz17 hb2 hT17 hG17
    replace hB := below_upd hB hG17 hsz (by omega)
    replace hsz : w.heap.size ≤ w17.heap.size := by rw [hz17]; exact hsz
    replace hb4 := hb4.upd hG17 (by omega)
    replace hdb := (hG17.block db (heap_lt hdb) (by simp; omega)).trans hdb
    refine l_nil ?_
    obtain ⟨wf18, hUf, hzf18, hGf18⟩ := unw_one hdb
    replace hB := below_upd hB hGf18 hsz (by omega)
    replace hsz : w.heap.size ≤ wf18.heap.size := by rw [hzf18]; exact hsz
    replace hb2 := hb2.upd hGf18 (by omega)
    replace hb4 := hb4.upd hGf18 (by omega)
    refine r_ret_ (vs := [.slice _ _ _]) rfl Tryz.func95 rfl (hUf) ⟨⟨_, _, rfl, run_loadVar1 Tryz.isAgg25 (hb2.has (o := 0) rfl)⟩, trivial⟩ ?_
    rw [if_neg (by rw [fal_none hno]; decide)]
    exact ⟨none, 0, rfl, Row.nil _ _ _ _, Ext.of_below hB⟩
   ·
    obtain ⟨fa, fc, hlp, hdb, hB, hb4, hfr, hfk⟩ := hJ
    refine ⟨.done, some (.ret), (by decide), hlp, rfl, ?_⟩
    intro w3 hz3 hg3
    have hsz2 : w.heap.size ≤ w2.heap.size := hB.size
    replace hB := below_upd hB hg3 hsz2 hbs_l
    have hsz : w.heap.size ≤ w3.heap.size := by rw [hz3]; exact hsz2
    replace hb4 := hb4.upd hg3 (by omega)
    replace hfr := (by first | exact row_loop hfr hg3 ((hLp _ _ _).1 hlp) | exact row_def hfr hg3 hdb)
    replace hdb := (hg3.block db (heap_lt hdb) (by simp; omega)).trans hdb
    obtain ⟨wf19, hUf, hzf19, hGf19⟩ := unw_one hdb
    replace hB := below_upd hB hGf19 hsz (by omega)
    replace hsz : w.heap.size ≤ wf19.heap.size := by rw [hzf19]; exact hsz
    replace hb4 := hb4.upd hGf19 (by omega)
    replace hfr := (by first | exact row_loop hfr hGf19 ((hLp _ _ _).1 hlp) | exact row_def hfr hGf19 hdb)
    refine r_ret_ (vs := [.slice _ _ _]) rfl Tryz.func95 rfl (hUf) ⟨⟨_, _, rfl, run_loadVar1 Tryz.isAgg25 (hb4.has (o := 0) rfl)⟩, trivial⟩ ?_
    rw [if_pos hfk]
    exact ⟨fa, fc, rfl, hfr, Ext.of_below hB⟩
end Go.Proofs.YtekkdhpgcilpdaaGreat
