/- Contracts. -/
import Derived.Test.YtbikicakdkbcgacGreatM5
set_option linter.unusedVariables false
set_option linter.unusedSimpArgs false
namespace Go.Proofs.YtbikicakdkbcgacGreat
open Go Go.RowKit Go.Gv Go.Fl
theorem row_none {xs : List Int} {w : World} {a : Option Addr} {n c : Nat} (h : Row w a n c 1 (xs.map vint)) (ha : a.isNone = true) : xs = [] := by
  rcases h.2.2 with h0 | ⟨b, o, rfl, _⟩
  · simpa using h0
  · cases ha

theorem own_ne_def2 {w : World} {base e size n db : Nat} {v : Value} {xs : List Value} {D : List Deferred} (h : w.ownsRow base e size v n xs) (hd : w.heap[db]? = some (.deferred (some D))) : some db ≠ v.ownBlock := fun he => own_ne_def h hd db he.symm rfl
theorem OwnsI.other {w w' : World} {B el l : Nat} {M : List SV} (h : OwnsI w B el M) (hG : w.grownBy w' (some l)) (hl : ∀ c e q, w.heap[l]? ≠ some (.cells c e q)) : OwnsI w' B el M := fun s hs => own_keepB (h s hs) (fun g hg => hG.block g ((h s hs).lt g hg).2 (fun he => by
  have e1 : g = l := by simpa using he
  subst e1
  rcases (h s hs).2 with ⟨h1, _⟩ | ⟨g', cap', cur, h1, _, hg2, _⟩
  · rw [h1] at hg; cases hg
  · rw [h1] at hg
    simp only [Value.ownBlock, Option.some.injEq] at hg
    subst hg
    exact hl _ _ _ hg2))
theorem loop_cells {w : World} {l n : Nat} {s : LoopState} {p : Option Code} {f : FuncId} {e : Env} {ps : List Tmp} {x y : Code} (hl : LoopAt w l s p f n e ps x y) : ∀ c e q, w.heap[l]? ≠ some (.cells c e q) := fun c1 e1 q1 h1 => by
  obtain ⟨t, db, h2, _⟩ := hl
  rw [h1] at h2
  cases h2
theorem def_cells {w : World} {db : Nat} {D : List Deferred} (hd : w.heap[db]? = some (.deferred (some D))) : ∀ c e q, w.heap[db]? ≠ some (.cells c e q) := fun c1 e1 q1 h1 => by
  rw [h1] at hd
  cases hd
theorem flat_le {α : Type} {f : α → List (List Int)} {B : Nat} : ∀ {l : List α}, (∀ x ∈ l, (f x).length ≤ B) → (l.flatMap f).length ≤ B * l.length
  | [], _ => by simp
  | x :: l, h => by
    have h1 := h x (by simp)
    have h2 := flat_le (l := l) (fun y hy => h y (by simp [hy]))
    rw [List.flatMap_cons, List.length_append, List.length_cons, Nat.mul_succ]
    omega
theorem subs_len {xs : List Int} (h : xs.length ≤ 5) : (subs xs).length ≤ 25 := by
  unfold subs
  have h1 := flat_le (f := fun lo => (List.range (xs.length - lo)).map (fun d => subOf xs lo (d + 1))) (B := 5) (l := List.range xs.length) (fun lo _ => by rw [List.length_map, List.length_range]; omega)
  rw [List.length_range] at h1
  omega
section
variable {co : List Sg} {er : Int} {se : List Int} {sl : List SN} {rl : List RC} {r : RC} {k : Nat} {bf n : Int} {t : List Int} {M D : List SV}
theorem pl_len (hJn : ∀ x ∈ (lg co er se sl rl).J, (0 ≤ x.h ∧ x.h ≤ 23) ∧ (0 ≤ x.st ∧ x.st ≤ ((lg co er se sl rl).se.length : Int) - 1) ∧ (1 ≤ x.xs.length ∧ x.xs.length ≤ 5) ∧ isText (lg co er se sl rl).co x.xs = true) (h8 : (lg co er se sl rl).J.length ≤ 8) : (plS se sl bf).length ≤ 200 := by
  have h2 : sl.length ≤ 8 := by unfold lg at h8; rwa [List.length_map] at h8
  have h1 := flat_le (f := fun s : SN => if heardB se s.pn bf = true then subs s.xs else []) (B := 25) (l := sl) (fun s hs => by
    split
    · exact subs_len (hJn _ (List.mem_map.2 ⟨s, hs, rfl⟩)).2.2.1.2
    · simp)
  unfold plS
  omega
theorem sv_len {l : List (List Int)} (h : M.map (·.xs) = l.take k) (hl : l.length ≤ 200) : M.length ≤ 200 := by
  have h1 := congrArg List.length h
  rw [List.length_map, List.length_take] at h1
  omega
theorem sv_small (hJn : ∀ x ∈ (lg co er se sl rl).J, (0 ≤ x.h ∧ x.h ≤ 23) ∧ (0 ≤ x.st ∧ x.st ≤ ((lg co er se sl rl).se.length : Int) - 1) ∧ (1 ≤ x.xs.length ∧ x.xs.length ≤ 5) ∧ isText (lg co er se sl rl).co x.xs = true) (h : M.map (·.xs) = (plS se sl bf).take k) : ∀ s ∈ M, s.xs.length ≤ 2097152 := fun s hs => by
  have h1 : s.xs ∈ (plS se sl bf).take k := by rw [← h]; exact List.mem_map.2 ⟨s, hs, rfl⟩
  obtain ⟨i, hi, he⟩ := List.mem_iff_getElem.1 (List.mem_of_mem_take h1)
  have h2 := pl_ok hJn (k := i) (t := s.xs) (by rw [List.getElem?_eq_getElem hi, he])
  omega
theorem pl_take {l : List (List Int)} (h : l[k]? = some t) : l.take k ++ [t] = l.take (k + 1) := by rw [List.take_add_one, h]; rfl
def heardM (l : Lg) (bf : Int) : List (List Int) × Int := if ¬ faultM l = 0 then ([], faultM l) else if hourB bf = true then (textsL l bf, 0) else ([], 2)
theorem heardM_f {l : Lg} (h : ¬ faultM l = 0) : heardM l bf = ([], faultM l) := by unfold heardM; rw [if_pos h]
theorem heardM_2 {l : Lg} (h : faultM l = 0) (h2 : hourB bf = false) : heardM l bf = ([], 2) := by unfold heardM; rw [if_neg (fun h3 => h3 h), if_neg (by rw [h2]; decide)]
theorem heardM_0 {l : Lg} (h : faultM l = 0) (h2 : hourB bf = true) : heardM l bf = (textsL l bf, 0) := by unfold heardM; rw [if_neg (fun h3 => h3 h), if_pos h2]
theorem ded_fold_len : ∀ (l a : List (List Int)), (l.foldl dedS a).length ≤ a.length + l.length
  | [], a => by simp
  | x :: l, a => by
    have h1 := ded_fold_len l (dedS a x)
    have h2 : (dedS a x).length ≤ a.length + 1 := by unfold dedS; split <;> simp
    rw [List.foldl_cons, List.length_cons]; omega
theorem texts_len {l : List (List Int)} : (dedL (sortL l)).length ≤ l.length := by
  have h1 := ded_fold_len (sortL l) []
  have h2 := (sortL_perm l).length_eq
  unfold dedL
  simp only [List.length_nil] at h1
  omega
end


theorem clone6_ret (xa : Option Addr) (xc : Nat) (xs : List Int) (w : World) (hx : Row w xa xs.length xc 1 (xs.map vint)) (hxn : xs.length ≤ 2097152) : Ret Tryz.prog 51 [.slice xa xs.length xc] w (fun v w' => ∃ ra0 rc0, v = .slice ra0 (xs).length rc0 ∧ w'.ownsRow w.heap.size 3 1 (.slice ra0 (xs).length rc0) (xs).length ((xs).map vint) ∧ Ext w w') := by
 have hB := Below.refl w.heap.size w
 have hsz : w.heap.size ≤ w.heap.size := Nat.le_refl _
 refine ret_of_runs (args := [_]) Tryz.func51 rfl (Nat.le_of_ble_eq_true rfl) (by kernel_rfl) (r_seq (r_region' (l_q (qas rfl rfl) (l_nil (r_seq (r_seq (r_region' (l_q (qms rfl rfl) (l_q (q_eql_nil Tryz.underlying31 rfl rfl rfl) (l_nil (r_cond rfl (fun hc1 => ?_) (fun hc1 => ?_))))))))))))
 ·
  have hx0 : xs = [] := row_none (hx.below hB) hc1
  subst hx0
  refine r_seq (r_region' (l_q (qas rfl rfl) (l_nil (r_ret_ (vs := [.slice _ _ _]) rfl Tryz.func51 rfl (.nil _) ⟨rfl, trivial⟩ ?_))))
  exact ⟨_, _, rfl, World.ownsRow_nil _ _ _ _, Ext.of_below hB⟩
 ·
  refine r_skip (r_seq (r_region' (l_o (o_buildSlice (el := 3) (cs := []) Tryz.underlying31 el3 (by decide) (by kernel_rfl) rfl (by decide) rfl ?_))))
  intro b2 w2 hzl2 hzr2 _ hb2 hE2 ho2
  have hbs_b2 : w.heap.size ≤ b2 := Nat.le_trans hsz hzl2
  replace hB := below_ext hB hE2 hsz
  replace hsz := Nat.le_trans hsz hE2.size
  refine l_q (qms rfl rfl) (l_o (o_append_map (f := vint) ([]) (xs) Tryz.underlying31 el3 rfl rfl ho2 rfl (hx.below hB) (fun _ => rfl) (by (try simp only [List.length_append, List.length_cons, List.length_nil, List.length_take, List.length_drop, List.length_replicate]); omega) (by omega) rfl ?_))
  intro a3 c3 w3 hz3 ho3 hG3
  replace hB := below_own hB hG3 ho2 (by omega) hsz
  replace hsz := Nat.le_trans hsz hG3.size
  refine l_q (qas rfl rfl) (l_nil (r_ret_ (vs := [.slice _ _ _]) rfl Tryz.func51 rfl (.nil _) ⟨rfl, trivial⟩ ?_))
  exact ⟨_, _, rfl, ho3, Ext.of_below hB⟩
theorem mtexts_ret (ka : Option Addr) (kc : Nat) (co : List Sg) (er : Int) (sa : Option Addr) (sc : Nat) (se : List Int) (ja : Option Addr) (jc : Nat) (sl : List SN) (ra : Option Addr) (rc : Nat) (rl : List RC) (bf : Int) (w : World) (hlg : LgAt w ka kc co sa sc se ja jc sl ra rc rl) (hbg : LgBig co er se sl rl) (hok : faultM (lg co er se sl rl) = 0) : Ret Tryz.prog 31 [.agg ⟨[.slice ka co.length kc, vint er, .slice sa se.length sc, .slice ja sl.length jc, .slice ra rl.length rc]⟩, vint bf] w (fun v w' => ∃ da dc D, v = .slice da (List.length D) dc ∧ Row w' da (List.length D) dc 1 (D.map SV.enc) ∧ RowsI w' D ∧ D.map (·.xs) = textsL (lg co er se sl rl) bf ∧ Ext w w') := by
 obtain ⟨⟨hcn, hcl⟩, hen, hsn, ⟨hjn, hjl⟩, hrn, hrl⟩ := id hbg
 obtain ⟨⟨hs1, hs4⟩, hj8, hr6, hf0, ⟨he0, he3⟩, hsr, hJn, hRn⟩ := lg_ok hok
 have hB := Below.refl w.heap.size w
 have hsz : w.heap.size ≤ w.heap.size := Nat.le_refl _
 refine ret_of_runs (args := [_, _]) Tryz.func31 rfl (Nat.le_of_ble_eq_true rfl) (by kernel_rfl) (r_seq (r_region' (l_o (o_boxt rfl rfl rfl ?_))))
 intro b1 w1 hzl1 hzr1 _ hb1 hty_b1 hE1
 have hbs_b1 : w.heap.size ≤ b1 := Nat.le_trans hsz hzl1
 replace hB := below_ext hB hE1 hsz
 replace hsz := Nat.le_trans hsz hE1.size
 refine l_o (o_alloct Tryz.zeroValue56 rfl rfl ?_)
 intro b2 w2 hzl2 hzr2 _ hb2 hty_b2 hE2
 have hne_b1_b2 : b1 ≠ b2 := by have := hb1.lt; omega
 have hbs_b2 : w.heap.size ≤ b2 := Nat.le_trans hsz hzl2
 replace hB := below_ext hB hE2 hsz
 replace hb1 := hb1.ext hE2
 replace hty_b1 := hty_b1.ext hE2
 replace hsz := Nat.le_trans hsz hE2.size
 refine l_nil (r_seq (r_seq (r_region' (l_q (q_load_agg (n := 5) Tryz.isAgg43 Tryz.sizeOf43 rfl ((hb1.cells' (cs' := [_, _, _, _, _]) 0 5 rfl)) rfl rfl) (l_q (qmi rfl rfl) (l_o (o_call Tryz.call50 rfl (mparts_ret ka kc co er sa sc se ja jc sl ra rc rl bf _) rfl ?_)))))))
 rintro _ w3 ⟨bx3, by3, rfl, ⟨hbx3, hby3⟩, hpx3, hpy3, hty_bx3, hty_by3, hE3⟩
 have hne_b1_bx3 : b1 ≠ bx3 := by have := hb1.lt; omega
 have hne_b1_by3 : b1 ≠ by3 := by have := hb1.lt; omega
 have hne_b2_bx3 : b2 ≠ bx3 := by have := hb2.lt; omega
 have hne_b2_by3 : b2 ≠ by3 := by have := hb2.lt; omega
 have hbs_bx3 : w.heap.size ≤ bx3 := by omega
 have hbs_by3 : w.heap.size ≤ by3 := by omega
 replace hB := below_ext hB hE3 hsz
 replace hb1 := hb1.ext hE3
 replace hty_b1 := hty_b1.ext hE3
 replace hb2 := hb2.ext hE3
 replace hty_b2 := hty_b2.ext hE3
 replace hsz := Nat.le_trans hsz hE3.size
 refine l_nil (r_block (r_rangeFunc' (fst := []) (cap := [_, _]) rfl rfl Tryz.call88 ?_))
 intro l db wl Lp hLp hLk hEl hll hldb hlne hdbN hlN hdb hlp
 have hlt_b1 := hb1.lt
 have hlt_b2 := hb2.lt
 have hlt_bx3 := hpx3.lt
 have hlt_by3 := hpy3.lt
 have hszl := hEl.size
 replace hB := below_ext hB hEl hsz
 replace hb1 := hb1.ext hEl
 replace hty_b1 := hty_b1.ext hEl
 replace hb2 := hb2.ext hEl
 replace hty_b2 := hty_b2.ext hEl
 replace hpx3 := hpx3.ext hEl
 replace hty_bx3 := hty_bx3.ext hEl
 replace hpy3 := hpy3.ext hEl
 replace hty_by3 := hty_by3.ext hEl
 replace hsz := Nat.le_trans hsz hEl.size
 have hbs_l : w.heap.size ≤ l := by omega
 have hbs_db : w.heap.size ≤ db := by omega
 have hJ0 : (fun (k : Nat) wq => ∃ (oa : Option Addr) (oc : Nat) (M : List SV), (Blk wq b1 [.slice ka co.length kc, vint er, .slice sa se.length sc, .slice ja sl.length jc, .slice ra rl.length rc]) ∧ (TyAt wq b1 43) ∧ (Blk wq b2 [.slice oa ((M).length) oc]) ∧ (TyAt wq b2 56) ∧ (Blk wq bx3 [.slice ka co.length kc, vint er, .slice sa se.length sc, .slice ja sl.length jc, .slice ra rl.length rc]) ∧ (TyAt wq bx3 43) ∧ (Blk wq by3 [vint bf]) ∧ (TyAt wq by3 3) ∧ (Lp wq .ready none) ∧ (wq.heap[db]? = some (.deferred (some []))) ∧ (Below w.heap.size w wq) ∧ (M.map (·.xs) = (plS se sl bf).take k) ∧ (wq.ownsRow w.heap.size 31 1 (.slice oa ((M).length) oc) ((M).length) ((M).map SV.enc)) ∧ (OwnsI wq w.heap.size 3 M)) 0 wl := ⟨none, 0, [], hb1, hty_b1, hb2, hty_b2, hpx3, hty_bx3, hpy3, hty_by3, hlp, hdb, hB, rfl, (World.ownsRow_nil _ _ _ _), (OwnsI.nil _ _ _)⟩
 have hJs : ∀ k w1 w2, (fun (k : Nat) wq => ∃ (oa : Option Addr) (oc : Nat) (M : List SV), (Blk wq b1 [.slice ka co.length kc, vint er, .slice sa se.length sc, .slice ja sl.length jc, .slice ra rl.length rc]) ∧ (TyAt wq b1 43) ∧ (Blk wq b2 [.slice oa ((M).length) oc]) ∧ (TyAt wq b2 56) ∧ (Blk wq bx3 [.slice ka co.length kc, vint er, .slice sa se.length sc, .slice ja sl.length jc, .slice ra rl.length rc]) ∧ (TyAt wq bx3 43) ∧ (Blk wq by3 [vint bf]) ∧ (TyAt wq by3 3) ∧ (Lp wq .ready none) ∧ (wq.heap[db]? = some (.deferred (some []))) ∧ (Below w.heap.size w wq) ∧ (M.map (·.xs) = (plS se sl bf).take k) ∧ (wq.ownsRow w.heap.size 31 1 (.slice oa ((M).length) oc) ((M).length) ((M).map SV.enc)) ∧ (OwnsI wq w.heap.size 3 M)) k w1 → Ext w1 w2 → (fun (k : Nat) wq => ∃ (oa : Option Addr) (oc : Nat) (M : List SV), (Blk wq b1 [.slice ka co.length kc, vint er, .slice sa se.length sc, .slice ja sl.length jc, .slice ra rl.length rc]) ∧ (TyAt wq b1 43) ∧ (Blk wq b2 [.slice oa ((M).length) oc]) ∧ (TyAt wq b2 56) ∧ (Blk wq bx3 [.slice ka co.length kc, vint er, .slice sa se.length sc, .slice ja sl.length jc, .slice ra rl.length rc]) ∧ (TyAt wq bx3 43) ∧ (Blk wq by3 [vint bf]) ∧ (TyAt wq by3 3) ∧ (Lp wq .ready none) ∧ (wq.heap[db]? = some (.deferred (some []))) ∧ (Below w.heap.size w wq) ∧ (M.map (·.xs) = (plS se sl bf).take k) ∧ (wq.ownsRow w.heap.size 31 1 (.slice oa ((M).length) oc) ((M).length) ((M).map SV.enc)) ∧ (OwnsI wq w.heap.size 3 M)) k w2 := fun k w1 w2 hJ hE2 => by
   obtain ⟨oa, oc, M, q0, q1, q2, q3, q4, q5, q6, q7, q8, q9, q10, q11, q12, q13⟩ := hJ
   exact ⟨oa, oc, M, (q0.ext hE2), (q1.ext hE2), (q2.ext hE2), (q3.ext hE2), (q4.ext hE2), (q5.ext hE2), (q6.ext hE2), (q7.ext hE2), (hLk _ _ _ _ q8 (hE2.block l (((hLp _ _ _).1 q8).lt) (by simp))), ((hE2.block db (heap_lt q9) (by simp)).trans q9), (below_ext q10 hE2 q10.size), q11, (own_ext q12 hE2), (q13.ext hE2)⟩
 refine (mparts1_ret l bx3 by3 ka kc co er sa sc se ja jc sl ra rc rl bf (fun (k : Nat) wq => ∃ (oa : Option Addr) (oc : Nat) (M : List SV), (Blk wq b1 [.slice ka co.length kc, vint er, .slice sa se.length sc, .slice ja sl.length jc, .slice ra rl.length rc]) ∧ (TyAt wq b1 43) ∧ (Blk wq b2 [.slice oa ((M).length) oc]) ∧ (TyAt wq b2 56) ∧ (Blk wq bx3 [.slice ka co.length kc, vint er, .slice sa se.length sc, .slice ja sl.length jc, .slice ra rl.length rc]) ∧ (TyAt wq bx3 43) ∧ (Blk wq by3 [vint bf]) ∧ (TyAt wq by3 3) ∧ (Lp wq .ready none) ∧ (wq.heap[db]? = some (.deferred (some []))) ∧ (Below w.heap.size w wq) ∧ (M.map (·.xs) = (plS se sl bf).take k) ∧ (wq.ownsRow w.heap.size 31 1 (.slice oa ((M).length) oc) ((M).length) ((M).map SV.enc)) ∧ (OwnsI wq w.heap.size 3 M)) (fun wq => False) wl hbg (fun x hx => (hJn _ (List.mem_map.2 ⟨x, hx, rfl⟩)).2.1) hJ0 (fun k w1 hJ => by obtain ⟨oa, oc, M, hb1, hty_b1, hb2, hty_b2, hpx3, hty_bx3, hpy3, hty_by3, hlp, hdb, hB, hMp, ho, hos⟩ := hJ; exact ⟨hpx3, hpy3, hlg.below hB⟩) hJs ?_).mono ?_
 · intro k w1 t ya yc hpl hJ hN hrow
   obtain ⟨oa, oc, M, hb1, hty_b1, hb2, hty_b2, hpx3, hty_bx3, hpy3, hty_by3, hlp, hdb, hB, hMp, ho, hos⟩ := hJ
   refine yieldAt_of ((hLp _ _ _).1 hlp) rfl (by rfl) (by kernel_rfl) ?_
   have hsz : w.heap.size ≤ w1.heap.size := by omega
   have hF := FrT.refl 55 w1
   have hszr : w1.heap.size ≤ w1.heap.size := Nat.le_refl _
   obtain ⟨ht0, ht5, htx⟩ := pl_ok hJn hpl
   have hMl := sv_len hMp (pl_len hJn hj8)
   refine r_forget [(4, ptr b2 0), (9, .slice ya ((t).length) yc)] ⟨rfl, rfl, trivial⟩ (fun e4 => (r_region' (l_q (qas rfl rfl) (l_nil (r_begin rfl ((hLp _ _ _).1 hlp) ?_)))))
   intro wb5 hzb5 hgb5 hl5
   replace hB := below_upd hB hgb5 hsz hbs_l
   replace hsz : w.heap.size ≤ wb5.heap.size := by rw [hzb5]; exact hsz
   replace hb1 := hb1.upd hgb5 (by omega)
   replace hty_b1 := hty_b1.upd hgb5 (by omega)
   replace hb2 := hb2.upd hgb5 (by omega)
   replace hty_b2 := hty_b2.upd hgb5 (by omega)
   replace hpx3 := hpx3.upd hgb5 (by omega)
   replace hty_bx3 := hty_bx3.upd hgb5 (by omega)
   replace hpy3 := hpy3.upd hgb5 (by omega)
   replace hty_by3 := hty_by3.upd hgb5 (by omega)
   replace hdb := (hgb5.block db (heap_lt hdb) (by simp; omega)).trans hdb
   replace ho := own_updne ho hgb5 (own_ne_loop ho ((hLp _ _ _).1 hlp))
   replace hos := OwnsI.other hos hgb5 (by first | exact loop_cells ((hLp _ _ _).1 hlp) | exact def_cells hdb)
   replace hF := (by first | exact FrT.upd hF hgb5 hty_l (by decide) | exact FrT.loop hF hgb5 ((hLp _ _ _).1 hlp))
   replace hszr := Nat.le_trans hszr hgb5.size
   replace hrow := (by first | exact row_loop hrow hgb5 ((hLp _ _ _).1 hlp) | exact row_def hrow hgb5 hdb)
   have hlp := (hLp _ _ _).2 hl5
   refine r_block (r_draw ext_refl' ext_trans' [0, 1, 2, 3, 4, 5] [2, 3, 4, 5, 1004, 1005] 5 (by kernel_rfl) (by kernel_rfl) ?_)
   intro w6 _ hE6
   replace hB := below_ext hB hE6 hsz
   replace hb1 := hb1.ext hE6
   replace hty_b1 := hty_b1.ext hE6
   replace hb2 := hb2.ext hE6
   replace hty_b2 := hty_b2.ext hE6
   replace hpx3 := hpx3.ext hE6
   replace hty_bx3 := hty_bx3.ext hE6
   replace hpy3 := hpy3.ext hE6
   replace hty_by3 := hty_by3.ext hE6
   replace hdb := (hE6.block db (heap_lt hdb) (by simp)).trans hdb
   replace ho := own_ext ho hE6
   replace hos := hos.ext hE6
   replace hF := hF.trans (FrT.of_ext hE6)
   replace hszr := Nat.le_trans hszr hE6.size
   replace hrow := hrow.ext hE6
   replace hlp := hLk _ _ _ _ hlp (hE6.block l (((hLp _ _ _).1 hlp).lt) (by simp))
   replace hsz := Nat.le_trans hsz hE6.size
   refine m_q rfl rfl (fun w' hC' => q_load Tryz.isAgg56 rfl (((hb2.has (o := 0) rfl).ext hC')) rfl) (m_q rfl rfl (fun w' hC' => qms rfl rfl) (m_o rfl rfl (o_call Tryz.call51 rfl (clone6_ret _ _ t _ hrow (by omega)) rfl ?_)))
   rintro _ w7 ⟨a7_0, c7_0, rfl, ho7_0, hE7⟩
   replace ho7_0 := own_mono ho7_0 (show w.heap.size ≤ _ by omega)
   refine ⟨hE7, ?_⟩
   replace hB := below_ext hB hE7 hsz
   replace hb1 := hb1.ext hE7
   replace hty_b1 := hty_b1.ext hE7
   replace hb2 := hb2.ext hE7
   replace hty_b2 := hty_b2.ext hE7
   replace hpx3 := hpx3.ext hE7
   replace hty_bx3 := hty_bx3.ext hE7
   replace hpy3 := hpy3.ext hE7
   replace hty_by3 := hty_by3.ext hE7
   replace hdb := (hE7.block db (heap_lt hdb) (by simp)).trans hdb
   replace ho := own_ext ho hE7
   replace hos := hos.ext hE7
   replace hF := hF.trans (FrT.of_ext hE7)
   replace hszr := Nat.le_trans hszr hE7.size
   replace hlp := hLk _ _ _ _ hlp (hE7.block l (((hLp _ _ _).1 hlp).lt) (by simp))
   replace hsz := Nat.le_trans hsz hE7.size
   refine m_o rfl rfl (o_buildSlice (el := 31) (cs := [.slice a7_0 ((t).length) c7_0]) Tryz.underlying56 el31 (by decide) (by kernel_rfl) rfl (by decide) rfl ?_)
   intro b8 w8 hzl8 hzr8 _ hb8 hE8 ho8
   refine ⟨hE8, ?_⟩
   have hne_b1_b8 : b1 ≠ b8 := by have := hb1.lt; omega
   have hne_b2_b8 : b2 ≠ b8 := by have := hb2.lt; omega
   have hne_bx3_b8 : bx3 ≠ b8 := by have := hpx3.lt; omega
   have hne_by3_b8 : by3 ≠ b8 := by have := hpy3.lt; omega
   have hbs_b8 : w.heap.size ≤ b8 := Nat.le_trans hsz hzl8
   replace hB := below_ext hB hE8 hsz
   replace hb1 := hb1.ext hE8
   replace hty_b1 := hty_b1.ext hE8
   replace hb2 := hb2.ext hE8
   replace hty_b2 := hty_b2.ext hE8
   replace hpx3 := hpx3.ext hE8
   replace hty_bx3 := hty_bx3.ext hE8
   replace hpy3 := hpy3.ext hE8
   replace hty_by3 := hty_by3.ext hE8
   replace hdb := (hE8.block db (heap_lt hdb) (by simp)).trans hdb
   replace ho := own_ext ho hE8
   replace hos := hos.ext hE8
   replace hF := hF.trans (FrT.of_ext hE8)
   replace hszr := Nat.le_trans hszr hE8.size
   replace hlp := hLk _ _ _ _ hlp (hE8.block l (((hLp _ _ _).1 hlp).lt) (by simp))
   replace ho7_0 := own_ext ho7_0 hE8
   replace hsz := Nat.le_trans hsz hE8.size
   have hos8 : OwnsI w8 w.heap.size 3 ([⟨a7_0, c7_0, t⟩] : List SV) := OwnsI.snoc (OwnsI.nil _ _ _) (own_mono ho7_0 (by omega))
   refine m_last rfl rfl rfl (o_append_map (f := SV.enc) (M) (([⟨a7_0, c7_0, t⟩] : List SV)) Tryz.underlying56 el31 rfl rfl ho rfl (Row.of_owns ho8) (fun _ => rfl) (by (try simp only [List.length_append, List.length_cons, List.length_nil, List.length_take, List.length_drop, List.length_replicate]); omega) (by omega) rfl ?_)
   intro a9 c9 w9 hz9 ho9 hG9
   replace hB := below_own hB hG9 ho (by omega) hsz
   replace hsz := Nat.le_trans hsz hG9.size
   replace hb1 := hb1.step hG9 (own_ty_ne ho hty_b1 (by decide))
   replace hb2 := hb2.step hG9 (own_ty_ne ho hty_b2 (by decide))
   replace hpx3 := hpx3.step hG9 (own_ty_ne ho hty_bx3 (by decide))
   replace hpy3 := hpy3.step hG9 (own_ty_ne ho hty_by3 (by decide))
   replace hdb := (hG9.block db (heap_lt hdb) (own_ne_def2 ho hdb)).trans hdb
   replace hos := hos.kept ho (by decide) hG9
   replace hF := FrT.own hF ho hG9 (by decide)
   replace hszr := Nat.le_trans hszr hG9.size
   replace hlp := hLk _ _ _ _ hlp (hG9.block l (((hLp _ _ _).1 hlp).lt) (fun he => own_ne_loop ho ((hLp _ _ _).1 hlp) _ he.symm rfl))
   replace ho7_0 := own_kept ho7_0 ho (by decide) hG9
   replace hty_b1 := TyAt.own hty_b1 ho hG9 (by decide)
   replace hty_b2 := TyAt.own hty_b2 ho hG9 (by decide)
   replace hty_bx3 := TyAt.own hty_bx3 ho hG9 (by decide)
   replace hty_by3 := TyAt.own hty_by3 ho hG9 (by decide)
   have hos9 : OwnsI w9 w.heap.size 3 (M ++ ([⟨a7_0, c7_0, t⟩] : List SV)) := (hos).snoc (own_mono ho7_0 (by omega))
   refine m_last rfl rfl rfl (o_storet (vs := [.slice a9 ((M ++ ([⟨a7_0, c7_0, t⟩] : List SV)).length) c9]) (cs' := [.slice a9 ((M ++ ([⟨a7_0, c7_0, t⟩] : List SV)).length) c9]) Tryz.sizeOf56 rfl rfl rfl rfl hb2 (Nat.le_of_ble_eq_true rfl) rfl rfl ?_)
   intro w10 hz10 hb2 hT10 hG10
   replace hB := below_upd hB hG10 hsz (by omega)
   replace hsz : w.heap.size ≤ w10.heap.size := by rw [hz10]; exact hsz
   replace hb1 := hb1.upd hG10 (by omega)
   replace hty_b1 := hty_b1.upd hG10 (by omega)
   replace hpx3 := hpx3.upd hG10 (by omega)
   replace hty_bx3 := hty_bx3.upd hG10 (by omega)
   replace hpy3 := hpy3.upd hG10 (by omega)
   replace hty_by3 := hty_by3.upd hG10 (by omega)
   replace hdb := (hG10.block db (heap_lt hdb) (by simp; omega)).trans hdb
   replace hos := OwnsI.tyupd hos hty_b2 hG10 (by decide)
   replace hF := (by first | exact FrT.upd hF hG10 hty_b2 (by decide) | exact FrT.loop hF hG10 ((hLp _ _ _).1 hlp))
   replace hszr := Nat.le_trans hszr hG10.size
   replace hlp := hLk _ _ _ _ hlp (hG10.block l (((hLp _ _ _).1 hlp).lt) (by simp; omega))
   replace hos9 := OwnsI.tyupd hos9 hty_b2 hG10 (by decide)
   replace ho9 := own_ty_upd ho9 hty_b2 hG10 (by decide)
   replace hty_b2 := hT10 _ hty_b2
   refine m_nil (r_inBlock (r_round_end rfl ((hLp _ _ _).1 hlp) ?_))
   intro we11 hze11 hge11 hl11
   replace hB := below_upd hB hge11 hsz hbs_l
   replace hsz : w.heap.size ≤ we11.heap.size := by rw [hze11]; exact hsz
   replace hb1 := hb1.upd hge11 (by omega)
   replace hty_b1 := hty_b1.upd hge11 (by omega)
   replace hb2 := hb2.upd hge11 (by omega)
   replace hty_b2 := hty_b2.upd hge11 (by omega)
   replace hpx3 := hpx3.upd hge11 (by omega)
   replace hty_bx3 := hty_bx3.upd hge11 (by omega)
   replace hpy3 := hpy3.upd hge11 (by omega)
   replace hty_by3 := hty_by3.upd hge11 (by omega)
   replace hdb := (hge11.block db (heap_lt hdb) (by simp; omega)).trans hdb
   replace hos := OwnsI.other hos hge11 (by first | exact loop_cells ((hLp _ _ _).1 hlp) | exact def_cells hdb)
   replace hF := (by first | exact FrT.upd hF hge11 hty_l (by decide) | exact FrT.loop hF hge11 ((hLp _ _ _).1 hlp))
   replace hszr := Nat.le_trans hszr hge11.size
   replace hos9 := OwnsI.other hos9 hge11 (by first | exact loop_cells ((hLp _ _ _).1 hlp) | exact def_cells hdb)
   replace ho9 := own_updne ho9 hge11 (own_ne_loop ho9 ((hLp _ _ _).1 hlp))
   have hlp := (hLp _ _ _).2 hl11
   exact ⟨true, rfl, fun _ => ⟨a9, c9, M ++ ([⟨a7_0, c7_0, t⟩] : List SV), hb1, hty_b1, hb2, hty_b2, hpx3, hty_bx3, hpy3, hty_by3, hlp, hdb, hB, (by rw [List.map_append, hMp]; exact pl_take hpl), ho9, hos9⟩, (fun h => by cases h), hF, hszr⟩
 · rintro _ w2 (hJ | hJ)
   ·
    obtain ⟨oa, oc, M, hb1, hty_b1, hb2, hty_b2, hpx3, hty_bx3, hpy3, hty_by3, hlp, hdb, hB, hMp, ho, hos⟩ := hJ
    have hMl := sv_len hMp (pl_len hJn hj8)
    have hMx := sv_small hJn hMp
    refine ⟨.ready, none, (by decide), hlp, rfl, ?_⟩
    intro w3 hz3 hg3
    have hsz2 : w.heap.size ≤ w2.heap.size := hB.size
    replace hB := below_upd hB hg3 hsz2 hbs_l
    have hsz : w.heap.size ≤ w3.heap.size := by rw [hz3]; exact hsz2
    replace hb2 := hb2.upd hg3 (by omega)
    replace hty_b2 := hty_b2.upd hg3 (by omega)
    replace hdb := (hg3.block db (heap_lt hdb) (by simp; omega)).trans hdb
    replace ho := own_updne ho hg3 (own_ne_loop ho ((hLp _ _ _).1 hlp))
    replace hos := OwnsI.other hos hg3 (by first | exact loop_cells ((hLp _ _ _).1 hlp) | exact def_cells hdb)
    refine r_inBlock (r_seq (r_region' (l_q (q_load Tryz.isAgg56 rfl ((hb2.has (o := 0) rfl)) rfl) (l_o (o_call Tryz.call52 rfl (sort6_ret (INT := 3) ho hos (by decide) (by omega) hMx) rfl ?_)))))
    rintro _ w12 ⟨rfl, S, hSx, hSl, hSo, hSi, hSm, hGs⟩
    replace hB := below_own hB hGs ho (by omega) hsz
    replace hsz := Nat.le_trans hsz hGs.size
    replace hb2 := hb2.step hGs (own_ty_ne ho hty_b2 (by decide))
    replace hdb := (hGs.block db (heap_lt hdb) (own_ne_def2 ho hdb)).trans hdb
    replace hty_b2 := TyAt.own hty_b2 ho hGs (by decide)
    rw [← hSl] at hb2 hSo
    have hSx2 : ∀ s ∈ S, s.xs.length ≤ 2097152 := fun s hs => hMx s (hSm s hs)
    refine l_nil (r_seq (r_region' (l_q (q_load Tryz.isAgg56 rfl ((hb2.has (o := 0) rfl)) rfl) (l_o (o_call Tryz.call55 rfl (compact_ret _ oa oc S _ hSo hSi (by omega) hSx2) rfl ?_)))))
    rintro _ w13 ⟨da, dc, D, rfl, hDx, hDo, hDi, hGc⟩
    replace hB := below_own hB hGc hSo (by omega) hsz
    replace hsz := Nat.le_trans hsz hGc.size
    replace hb2 := hb2.step hGc (own_ty_ne hSo hty_b2 (by decide))
    replace hdb := (hGc.block db (heap_lt hdb) (own_ne_def2 hSo hdb)).trans hdb
    replace hty_b2 := TyAt.own hty_b2 hSo hGc (by decide)
    refine l_o (o_storet (vs := [.slice da D.length dc]) (cs' := [.slice da D.length dc]) Tryz.sizeOf56 rfl rfl rfl rfl hb2 (Nat.le_of_ble_eq_true rfl) rfl rfl ?_)
    intro w14 hz14 hb2 hT14 hG14
    replace hB := below_upd hB hG14 hsz (by omega)
    replace hsz : w.heap.size ≤ w14.heap.size := by rw [hz14]; exact hsz
    replace hdb := (hG14.block db (heap_lt hdb) (by simp; omega)).trans hdb
    replace hDo := own_ty_upd hDo hty_b2 hG14 (by decide)
    replace hDi := OwnsI.tyupd hDi hty_b2 hG14 (by decide)
    refine l_nil (r_forget [(4, .pointer _)] ⟨rfl, trivial⟩ (fun e15 => ?_))
    obtain ⟨wf16, hUf, hzf16, hGf16⟩ := unw_one hdb
    replace hB := below_upd hB hGf16 hsz (by omega)
    replace hsz : w.heap.size ≤ wf16.heap.size := by rw [hzf16]; exact hsz
    replace hb2 := hb2.upd hGf16 (by omega)
    replace hDo := own_updne hDo hGf16 (own_ne_def hDo hdb)
    replace hDi := OwnsI.other hDi hGf16 (by first | exact loop_cells ((hLp _ _ _).1 hlp) | exact def_cells hdb)
    refine r_ret_ (vs := [.slice _ _ _]) rfl Tryz.func31 rfl (hUf) ⟨⟨_, _, rfl, run_loadVar1 Tryz.isAgg56 (hb2.has (o := 0) rfl)⟩, trivial⟩ ?_
    exact ⟨da, dc, D, rfl, Row.of_owns hDo, hDi.rows, (by rw [hDx, hSx, hMp, List.take_length, ← plS_eq (co := co) (er := er) (rl := rl)]; rfl), Ext.of_below hB⟩
   ·
    exact hJ.elim
theorem mHeard_ret (ka : Option Addr) (kc : Nat) (co : List Sg) (er : Int) (sa : Option Addr) (sc : Nat) (se : List Int) (ja : Option Addr) (jc : Nat) (sl : List SN) (ra : Option Addr) (rc : Nat) (rl : List RC) (bf : Int) (w : World) (hlg : LgAt w ka kc co sa sc se ja jc sl ra rc rl) (hbg : LgBig co er se sl rl) : Ret Tryz.prog 14 [.agg ⟨[.slice ka co.length kc, vint er, .slice sa se.length sc, .slice ja sl.length jc, .slice ra rl.length rc]⟩, vint bf] w (fun v w' => ∃ da dc D, v = .tuple ⟨[.slice da (List.length D) dc, vint (heardM (lg co er se sl rl) bf).2]⟩ ∧ Row w' da (List.length D) dc 1 (D.map SV.enc) ∧ RowsI w' D ∧ D.map (·.xs) = (heardM (lg co er se sl rl) bf).1 ∧ Ext w w') := by
 obtain ⟨⟨hcn, hcl⟩, hen, hsn, ⟨hjn, hjl⟩, hrn, hrl⟩ := id hbg
 have hB := Below.refl w.heap.size w
 have hsz : w.heap.size ≤ w.heap.size := Nat.le_refl _
 refine ret_of_runs (args := [_, _]) Tryz.func14 rfl (Nat.le_of_ble_eq_true rfl) (by kernel_rfl) (r_seq (r_region' (l_o (o_box rfl rfl rfl ?_))))
 intro b1 w1 hzl1 hzr1 _ hb1 hE1
 have hbs_b1 : w.heap.size ≤ b1 := Nat.le_trans hsz hzl1
 replace hB := below_ext hB hE1 hsz
 replace hsz := Nat.le_trans hsz hE1.size
 refine l_q (qas rfl rfl) (l_q (qai rfl rfl) (l_nil (r_seq (r_seq (r_region' (l_q (q_load_agg (n := 5) Tryz.isAgg43 Tryz.sizeOf43 rfl ((hb1.cells' (cs' := [_, _, _, _, _]) 0 5 rfl)) rfl rfl) (l_o (o_call Tryz.call29 rfl (checkLog_ret ka kc co er sa sc se ja jc sl ra rc rl _ (hlg.below hB) hbg) rfl ?_))))))))
 rintro _ w2 ⟨rfl, hE2⟩
 replace hB := below_ext hB hE2 hsz
 replace hb1 := hb1.ext hE2
 replace hsz := Nat.le_trans hsz hE2.size
 refine l_q (qai rfl rfl) (l_nil (r_seq (r_region' (l_q (qmi rfl rfl) (l_q (q_neq rfl rfl rfl) (l_nil (r_cond rfl (fun hc3 => ?_) (fun hc3 => ?_))))))))
 ·
  replace hc3 := df (nt hc3)
  have h10 : ¬ faultM (lg co er se sl rl) = 0 := by have := hc3; simpa using this
  refine r_seq (r_region' (l_q (qmi rfl rfl) (l_q (qas rfl rfl) (l_q (qai rfl rfl) (l_nil (r_ret_ (vs := [.slice _ _ _, .int _ _]) rfl Tryz.func14 rfl (.nil _) ⟨rfl, rfl, trivial⟩ ?_))))))
  refine ⟨none, 0, [], ?_, Row.nil _ _ _ _, RowsI.nil _, ?_, Ext.of_below hB⟩ <;> rw [heardM_f h10] <;> rfl
 ·
  replace hc3 := dt (nf hc3)
  have hok : faultM (lg co er se sl rl) = 0 := by have := hc3; simpa using this
  refine r_skip (r_seq (r_seq (r_region' (l_q (qmi rfl rfl) (l_o (o_call Tryz.call30 rfl (mhour_ret _ _) rfl ?_))))))
  rintro _ w4 ⟨rfl, rfl⟩
  refine l_q (q_not rfl rfl) (l_nil (r_forget [(1, .int _ _), (2, .pointer _), (14, .bool _)] ⟨rfl, rfl, rfl, trivial⟩ (fun e5 => (r_cond rfl (fun hc6 => ?_) (fun hc6 => ?_)))))
  ·
   replace hc6 := nt hc6
   have g14 := hc6
   refine r_seq (r_region' (l_q (qas rfl rfl) (l_q (qai rfl rfl) (l_nil (r_ret_ (vs := [.slice _ _ _, .int _ _]) rfl Tryz.func14 rfl (.nil _) ⟨rfl, rfl, trivial⟩ ?_)))))
   refine ⟨none, 0, [], ?_, Row.nil _ _ _ _, RowsI.nil _, ?_, Ext.of_below hB⟩ <;> rw [heardM_2 hok (by simpa using g14)] <;> rfl
  ·
   replace hc6 := nf hc6
   have g14 := hc6
   refine r_skip (r_seq (r_region' (l_q (q_load_agg (n := 5) Tryz.isAgg43 Tryz.sizeOf43 rfl ((hb1.cells' (cs' := [_, _, _, _, _]) 0 5 rfl)) rfl rfl) (l_q (qmi rfl rfl) (l_o (o_call Tryz.call31 rfl (mtexts_ret ka kc co er sa sc se ja jc sl ra rc rl bf _ (hlg.below hB) hbg hok) rfl ?_))))))
   rintro _ w7 ⟨ta7, tc7, D7, rfl, hrt7, hri7, hD7, hE7⟩
   replace hB := below_ext hB hE7 hsz
   replace hsz := Nat.le_trans hsz hE7.size
   refine l_q (qas rfl rfl) (l_q (qai rfl rfl) (l_nil (r_ret_ (vs := [.slice _ _ _, .int _ _]) rfl Tryz.func14 rfl (.nil _) ⟨rfl, rfl, trivial⟩ ?_)))
   refine ⟨ta7, tc7, D7, ?_, hrt7, hri7, ?_, Ext.of_below hB⟩ <;> rw [heardM_0 hok (by simpa using g14)]
   · rfl
   · exact hD7
end Go.Proofs.YtbikicakdkbcgacGreat
