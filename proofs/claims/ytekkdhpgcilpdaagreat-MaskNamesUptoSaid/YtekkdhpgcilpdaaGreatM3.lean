/- Contracts. -/
import Derived.Test.YtekkdhpgcilpdaaGreatM2
set_option linter.unusedVariables false
set_option linter.unusedSimpArgs false
namespace Go.Proofs.YtekkdhpgcilpdaaGreat
open Go Go.RowKit Go.Gv Go.Fl

def FrT (T : TypeId) (w w' : World) : Prop := ∀ b, TyAt w b T → w'.heap[b]? = w.heap[b]?
theorem TyAt.keep {w w' : World} {b T : Nat} (h : TyAt w b T) (hk : w'.heap[b]? = w.heap[b]?) : TyAt w' b T := by
  obtain ⟨cs, h⟩ := h
  exact ⟨cs, hk.trans h⟩
theorem FrT.refl (T : TypeId) (w : World) : FrT T w w := fun _ _ => rfl
theorem FrT.trans {T : TypeId} {a b c : World} (h : FrT T a b) (h2 : FrT T b c) : FrT T a c := fun k hk => (h2 k (TyAt.keep hk (h k hk))).trans (h k hk)
theorem FrT.of_ext {T : TypeId} {w w' : World} (h : Ext w w') : FrT T w w' := fun b hb => h.block b hb.lt (by simp)
theorem FrT.upd {T T' : TypeId} {w0 w w' : World} {b0 : Nat} (h : FrT T w0 w) (hG : w.grownBy w' (some b0)) (ht : TyAt w b0 T') (hne : T ≠ T') : FrT T w0 w' := h.trans fun b hb => hG.block b hb.lt (fun he => by
  have e : b = b0 := by simpa using he
  subst e
  obtain ⟨c1, h1⟩ := hb
  obtain ⟨c2, h2⟩ := ht
  rw [h1] at h2
  injection h2 with h2
  injection h2 with _ h3
  exact hne h3)
theorem FrT.own {T : TypeId} {w0 w w' : World} {base el sz n : Nat} {v : Value} {xs : List Value} (h : FrT T w0 w) (ho : w.ownsRow base el sz v n xs) (hG : w.grownBy w' v.ownBlock) (hne : el ≠ T) : FrT T w0 w' := h.trans fun b hb => hG.block b hb.lt (own_ty_ne ho hb hne)
theorem FrT.loop {T : TypeId} {w0 w w' : World} {l n : Nat} {s : LoopState} {p : Option Code} {f : FuncId} {e : Env} {ps : List Tmp} {x y : Code} (h : FrT T w0 w) (hG : w.grownBy w' (some l)) (hl : LoopAt w l s p f n e ps x y) : FrT T w0 w' := h.trans fun b hb => hG.block b hb.lt (fun he => by
  have e : b = l := by simpa using he
  subst e
  obtain ⟨c1, h1⟩ := hb
  obtain ⟨t, db, h2, _⟩ := hl
  rw [h1] at h2
  cases h2)
theorem ext_put {w w1 w2 : World} {b : Nat} (h : Ext w w1) (hG : w1.grownBy w2 (some b)) (hb : w.heap.size ≤ b) : Ext w w2 :=
  ⟨hG.os.trans h.os, hG.tape.trans h.tape, hG.output.trans h.output, Nat.le_trans h.size hG.size, fun k hk hn => (hG.block k (Nat.lt_of_lt_of_le hk h.size) (fun he => by
    have e : k = b := by simpa using he
    omega)).trans (h.block k hk hn)⟩
def plS (se : List Int) (sl : List SN) (bf : Int) : List (List Int) := sl.flatMap (fun s => if heardB se s.pn bf = true then subs s.xs else [])
theorem plS_eq {co : List Sg} {er : Int} {se : List Int} {sl : List SN} {rl : List RC} {bf : Int} : partsL (lg co er se sl rl) bf = plS se sl bf := by unfold partsL lg plS; rw [List.flatMap_map]; rfl
def offJ (se : List Int) (sl : List SN) (bf : Int) (jn : Nat) : Nat := (plS se (sl.take jn) bf).length
def offL (xs : List Int) (lo : Nat) : Nat := ((List.range lo).flatMap (fun lo => (List.range (xs.length - lo)).map (fun d => subOf xs lo (d + 1)))).length
section
variable {se : List Int} {sl : List SN} {bf : Int} {jn lo d : Nat} {xs : List Int}
theorem offJ_zero : offJ se sl bf 0 = 0 := by unfold offJ plS; rw [List.take_zero]; rfl
theorem offJ_end : offJ se sl bf sl.length = (plS se sl bf).length := by unfold offJ; rw [List.take_length]
theorem plS_succ (h : jn < sl.length) : plS se (sl.take (jn + 1)) bf = plS se (sl.take jn) bf ++ (if heardB se (sl.getD jn sn00).pn bf = true then subs (sl.getD jn sn00).xs else []) := by
  unfold plS
  rw [List.take_add_one, List.getElem?_eq_getElem h, List.flatMap_append, List.getD_eq_getElem?_getD, List.getElem?_eq_getElem h]
  simp
theorem offJ_no (h : jn < sl.length) (hh : heardB se (sl.getD jn sn00).pn bf = false) : offJ se sl bf (jn + 1) = offJ se sl bf jn := by
  unfold offJ
  rw [plS_succ h, if_neg (by rw [hh]; decide), List.append_nil]
theorem offJ_yes (h : jn < sl.length) (hh : heardB se (sl.getD jn sn00).pn bf = true) : offJ se sl bf (jn + 1) = offJ se sl bf jn + (subs (sl.getD jn sn00).xs).length := by
  unfold offJ
  rw [plS_succ h, if_pos hh, List.length_append]
theorem offL_zero : offL xs 0 = 0 := rfl
theorem offL_end : offL xs xs.length = (subs xs).length := rfl
theorem offL_succ (h : lo < xs.length) : offL xs (lo + 1) = offL xs lo + (xs.length - lo) := by
  unfold offL
  rw [List.range_succ, List.flatMap_append, List.length_append]
  simp
theorem subs_at (h : lo < xs.length) (hd : d < xs.length - lo) : (subs xs)[offL xs lo + d]? = some (subOf xs lo (d + 1)) := by
  have h1 : List.range xs.length = List.range lo ++ lo :: (List.range (xs.length - lo - 1)).map (fun i => lo + 1 + i) := by
    apply List.ext_getElem
    · simp; omega
    · intro i h1 h2
      simp only [List.getElem_range]
      rcases Nat.lt_trichotomy i lo with h3 | rfl | h3
      · rw [List.getElem_append_left (by simpa using h3)]; simp
      · rw [List.getElem_append_right (by simp)]; simp
      · rw [List.getElem_append_right (by simp; omega)]
        rw [List.getElem_cons]
        split
        · simp at *; omega
        · simp at *; omega
  unfold subs
  rw [h1, List.flatMap_append, List.getElem?_append_right (by unfold offL; omega)]
  show (List.flatMap _ (lo :: _))[offL xs lo + d - offL xs lo]? = _
  rw [Nat.add_sub_cancel_left, List.flatMap_cons, List.getElem?_append_left (by simpa using hd), List.getElem?_map, List.getElem?_range hd]
  rfl
theorem pl_at (h : jn < sl.length) (hh : heardB se (sl.getD jn sn00).pn bf = true) (hlo : lo < (sl.getD jn sn00).xs.length) (hd : d < (sl.getD jn sn00).xs.length - lo) : (plS se sl bf)[offJ se sl bf jn + offL (sl.getD jn sn00).xs lo + d]? = some (subOf (sl.getD jn sn00).xs lo (d + 1)) := by
  have h1 : sl = sl.take jn ++ (sl.getD jn sn00) :: sl.drop (jn + 1) := by
    rw [← drop_getD h, List.take_append_drop]
  have h2 : plS se sl bf = plS se (sl.take jn) bf ++ (subs (sl.getD jn sn00).xs ++ plS se (sl.drop (jn + 1)) bf) := by
    have h3 : plS se sl bf = plS se (sl.take jn ++ (sl.getD jn sn00) :: sl.drop (jn + 1)) bf := congrArg (fun z => plS se z bf) h1
    rw [h3]
    unfold plS
    rw [List.flatMap_append, List.flatMap_cons, if_pos hh]
  rw [h2, List.getElem?_append_right (by unfold offJ; omega)]
  show (subs (sl.getD jn sn00).xs ++ _)[offJ se sl bf jn + offL (sl.getD jn sn00).xs lo + d - offJ se sl bf jn]? = _
  have h4 := subs_at hlo hd
  rw [show offJ se sl bf jn + offL (sl.getD jn sn00).xs lo + d - offJ se sl bf jn = offL (sl.getD jn sn00).xs lo + d by omega, List.getElem?_append_left (by
    rcases Nat.lt_or_ge (offL (sl.getD jn sn00).xs lo + d) (subs (sl.getD jn sn00).xs).length with h5 | h5
    · exact h5
    · rw [List.getElem?_eq_none h5] at h4; cases h4)]
  exact h4
end

section
variable {co : List Sg} {er : Int} {se : List Int} {sl : List SN} {rl : List RC} {r : RC} {k : Nat}
theorem lgJ_at (h : k < sl.length) : (lg co er se sl rl).J.getD k sn0 = (sl.getD k sn00).pn := by
  show (sl.map SN.pn).getD k sn0 = _
  rw [List.getD_eq_getElem?_getD, List.getElem?_map, List.getElem?_eq_getElem h, List.getD_eq_getElem?_getD, List.getElem?_eq_getElem h]; rfl
theorem sn_of (h : ∀ x ∈ (lg co er se sl rl).J, (0 ≤ x.h ∧ x.h ≤ 23) ∧ (0 ≤ x.st ∧ x.st ≤ ((lg co er se sl rl).se.length : Int) - 1) ∧ (1 ≤ x.xs.length ∧ x.xs.length ≤ 5) ∧ isText (lg co er se sl rl).co x.xs = true) (hk : k < sl.length) :
    (0 ≤ (sl.getD k sn00).h ∧ (sl.getD k sn00).h ≤ 23) ∧ (0 ≤ (sl.getD k sn00).st ∧ (sl.getD k sn00).st ≤ (se.length : Int) - 1) ∧ (1 ≤ (sl.getD k sn00).xs.length ∧ (sl.getD k sn00).xs.length ≤ 5) ∧ isText co (sl.getD k sn00).xs = true := h _ (List.mem_map.2 ⟨_, getD_lt hk, rfl⟩)
def ownK (l : Lg) (r : RC) (k : Nat) : List Int := ((List.range k).filter (fun i => ownB l r (l.J.getD i sn0))).map (fun (i : Nat) => (i : Int))
theorem ownK_end : ownK (lg co er se sl rl) r sl.length = ownL (lg co er se sl rl) r := by unfold ownK ownL lg; rw [List.length_map]
theorem ownK_len {l : Lg} : (ownK l r k).length ≤ k := by
  unfold ownK
  rw [List.length_map]
  have := List.length_filter_le (fun i => ownB l r (l.J.getD i sn0)) (List.range k)
  rwa [List.length_range] at this
theorem ownK_y {l : Lg} (h : ownB l r (l.J.getD k sn0) = true) : ownK l r k ++ [(k : Int)] = ownK l r (k + 1) := by
  unfold ownK
  rw [List.range_succ, List.filter_append, List.map_append, List.filter_cons, if_pos h]; rfl
theorem ownK_n {l : Lg} (h : ownB l r (l.J.getD k sn0) = false) : ownK l r k = ownK l r (k + 1) := by
  unfold ownK
  rw [List.range_succ, List.filter_append, List.map_append, List.filter_cons, if_neg (by rw [h]; decide)]; simp
theorem ownK_yes (hk : k < sl.length) (h1 : (sl.getD k sn00).h = r.h) (h2 : (sl.getD k sn00).st = r.st) (h3 : readsB (lg co er se sl rl) (sl.getD k sn00).xs r.s = true) : ownK (lg co er se sl rl) r k ++ [(k : Int)] = ownK (lg co er se sl rl) r (k + 1) := ownK_y (by
  rw [lgJ_at hk]
  unfold ownB SN.pn
  rw [decide_eq_true h1, decide_eq_true h2, h3]; rfl)
theorem own_no1 (h : ¬ (sl.getD k sn00).h = r.h) : ownB (lg co er se sl rl) r (sl.getD k sn00).pn = false := by unfold ownB SN.pn; rw [decide_eq_false h]; rfl
theorem own_no2 (h : ¬ (sl.getD k sn00).st = r.st) : ownB (lg co er se sl rl) r (sl.getD k sn00).pn = false := by unfold ownB SN.pn; rw [decide_eq_false h, Bool.and_false]; rfl
theorem own_no3 (h : readsB (lg co er se sl rl) (sl.getD k sn00).xs r.s = false) : ownB (lg co er se sl rl) r (sl.getD k sn00).pn = false := by unfold ownB SN.pn; rw [h, Bool.and_false]
theorem ownK_no (hk : k < sl.length) (h : ownB (lg co er se sl rl) r (sl.getD k sn00).pn = false) : ownK (lg co er se sl rl) r k = ownK (lg co er se sl rl) r (k + 1) := ownK_n (by rw [lgJ_at hk]; exact h)
end


theorem mparts1_ret (l b b2 : Nat) (ka : Option Addr) (kc : Nat) (co : List Sg) (er : Int) (sa : Option Addr) (sc : Nat) (se : List Int) (ja : Option Addr) (jc : Nat) (sl : List SN) (ra : Option Addr) (rc : Nat) (rl : List RC) (bf : Int) (J : Nat → World → Prop) (E : World → Prop) (w : World) (hbg : LgBig co er se sl rl) (hst : ∀ x ∈ sl, 0 ≤ x.st ∧ x.st ≤ (se.length : Int) - 1) (h0 : J 0 w) (hJb : ∀ k w, J k w → Blk w b [.slice ka co.length kc, vint er, .slice sa se.length sc, .slice ja sl.length jc, .slice ra rl.length rc] ∧ Blk w b2 [vint bf] ∧ LgAt w ka kc co sa sc se ja jc sl ra rc rl) (hJs : ∀ k w1 w2, J k w1 → Ext w1 w2 → J k w2) (hy : ∀ (k : Nat) (w1 : World) (t : List Int) (ya : Option Addr) (yc : Nat), (plS se sl bf)[k]? = some t → J k w1 → w.heap.size ≤ w1.heap.size → Row w1 ya t.length yc 1 (t.map vint) → YieldAt Tryz.prog l [.slice ya t.length yc] w1 (fun v w2 => ∃ y : Bool, v = .bool y ∧ (y = true → J (k + 1) w2) ∧ (y = false → E w2) ∧ FrT 76 w1 w2 ∧ w1.heap.size ≤ w2.heap.size)) : Ret Tryz.prog 128 [.func (.yield l) ⟨[]⟩ ⟨[]⟩, ptr b 0, ptr b2 0] w (fun v w' => J (plS se sl bf).length w' ∨ E w') := by
 obtain ⟨⟨hcn, hcl⟩, hen, hsn, ⟨hjn, hjl⟩, hrn, hrl⟩ := id hbg
 have hJ := h0
 have hsz : w.heap.size ≤ w.heap.size := Nat.le_refl _
 refine ret_of_runs (args := [_, _, _]) Tryz.func128 rfl (Nat.le_of_ble_eq_true rfl) (by kernel_rfl) (r_seq (r_region' (l_q (q_fieldAddr (o' := 3) rfl fld38_3 rfl) (l_q (q_load Tryz.isAgg35 rfl (((hJb _ _ hJ).1.has (o := 3) rfl)) rfl) (l_q (q_len rfl Tryz.underlying35 rfl rfl) (l_q (qmi rfl rfl) (l_nil (r_block (r_rounds (α := Nat) (fun jn e wl => Knows e [(0, .func (.yield l) ⟨[]⟩ ⟨[]⟩), (1, ptr b 0), (2, ptr b2 0), (9, .slice ja sl.length jc), (10, vint (sl.length : Int)), (11, vint (jn : Int))] ∧ (jn ≤ sl.length) ∧ (J (offJ se sl bf jn) wl) ∧ (w.heap.size ≤ wl.heap.size)) (fun jn => sl.length - jn) 0 ?_ ?_)))))))))
 ·
  exact ⟨⟨rfl, rfl, rfl, rfl, rfl, rfl, trivial⟩, (Nat.zero_le _), (by rw [offJ_zero]; exact hJ), hsz⟩
 ·
  rintro jn el1 wl1 ⟨hkn, hkjn, hJ, hsz⟩ ih1
  obtain ⟨e1, rfl⟩ := knows_env hkn
  refine r_seq (r_region' (l_q (q_lss rfl rfl rfl) (l_nil (r_seq (r_cond rfl (fun hc2 => ?_) (fun hc2 => ?_))))))
  ·
   replace hc2 := dt hc2
   have hjs : jn < sl.length := by omega
   have hjx := hjl _ (getD_lt (d := sn00) hjs)
   refine r_skip (r_seq (r_block (r_seq (r_region' ?_))))
   obtain ⟨b3, o3, ha3, hh3⟩ := (hJb _ _ hJ).2.2.rsl.at (by decide) jn (by omega)
   refine l_q (q_indexAddr Tryz.underlying35 Tryz.sizeOf76 rfl ha3 rfl (by omega) rfl) (l_q (q_load_agg (cs := [vint (((sl).getD jn sn00).h), vint (((sl).getD jn sn00).st), .slice (((sl).getD jn sn00).a) (((sl).getD jn sn00).xs.length) (((sl).getD jn sn00).c)]) (n := 3) Tryz.isAgg76 Tryz.sizeOf76 rfl ((cells_cast (wide_at SN.len sn00 _ _ (by omega)) hh3)) rfl rfl) ?_)
   have hJa := hJ
   refine l_o (o_alloct Tryz.zeroValue76 rfl rfl ?_)
   intro b4 w4 hzl4 hzr4 _ hb4 hty_b4 hE4
   have hne_b_b4 : b ≠ b4 := by have := (hJb _ _ hJ).1.lt; omega
   have hne_b2_b4 : b2 ≠ b4 := by have := (hJb _ _ hJ).2.1.lt; omega
   have hbs_b4 : w.heap.size ≤ b4 := Nat.le_trans hsz hzl4
   replace hJ := hJs _ _ _ hJ hE4
   replace hsz := Nat.le_trans hsz hE4.size
   refine l_o (o_storet (vs := [vint (((sl).getD jn sn00).h), vint (((sl).getD jn sn00).st), .slice (((sl).getD jn sn00).a) (((sl).getD jn sn00).xs.length) (((sl).getD jn sn00).c)]) (cs' := [vint (((sl).getD jn sn00).h), vint (((sl).getD jn sn00).st), .slice (((sl).getD jn sn00).a) (((sl).getD jn sn00).xs.length) (((sl).getD jn sn00).c)]) Tryz.sizeOf76 rfl rfl rfl rfl hb4 (Nat.le_of_ble_eq_true rfl) rfl rfl ?_)
   intro w5 hz5 hb4 hT5 hG5
   replace hsz : w.heap.size ≤ w5.heap.size := by rw [hz5]; exact hsz
   replace hJ := hJs _ _ _ hJa (ext_put hE4 hG5 hzl4)
   replace hty_b4 := hT5 _ hty_b4
   refine l_nil (r_seq (r_seq (r_region' (l_q (q_load_agg (n := 5) Tryz.isAgg38 Tryz.sizeOf38 rfl (((hJb _ _ hJ).1.cells' (cs' := [_, _, _, _, _]) 0 5 rfl)) rfl rfl) (l_q (q_load_agg (n := 3) Tryz.isAgg76 Tryz.sizeOf76 rfl ((hb4.cells' (cs' := [_, _, _]) 0 3 rfl)) rfl rfl) (l_q (q_load Tryz.isAgg3 rfl (((hJb _ _ hJ).2.1.has (o := 0) rfl)) rfl) (l_o (o_call Tryz.call129 rfl (mheard_ret ka kc co er sa sc se ja jc sl ra rc rl (sl.getD jn sn00) bf _ (hJb _ _ hJ).2.2.rse hsn (hst _ (getD_lt (d := sn00) hjs))) rfl ?_))))))))
   rintro _ w6 ⟨rfl, hE6⟩
   replace hJ := hJs _ _ _ hJ hE6
   replace hb4 := hb4.ext hE6
   replace hty_b4 := hty_b4.ext hE6
   replace hsz := Nat.le_trans hsz hE6.size
   refine l_q (q_not rfl rfl) (l_nil (r_cond rfl (fun hc7 => ?_) (fun hc7 => ?_)))
   ·
    replace hc7 := nt hc7
    have hhd := hc7
    refine r_exit rfl (r_region' (l_q (q_add rfl rfl (by omega) rfl) (l_q (qmi rfl rfl) (l_nil (r_forget [(0, .func (.yield l) ⟨[]⟩ ⟨[]⟩), (1, .pointer _), (2, .pointer _), (9, .slice _ _ _), (10, .int _ _), (11, .int _ _)] ⟨rfl, rfl, rfl, rfl, rfl, rfl, trivial⟩ (fun e8 => ?_))))))
    exact ih1 (jn + 1) _ _ ⟨⟨rfl, rfl, rfl, rfl, rfl, (vint_eq (by omega)), trivial⟩, (by omega), (by rw [offJ_no hjs hhd]; exact hJ), hsz⟩ (by first | omega | (dsimp only; omega))
   ·
    replace hc7 := nf hc7
    have hhd := hc7
    refine r_skip (r_seq (r_region' (l_q (q_fieldAddr (o' := 2) rfl fld76_2 rfl) (l_q (q_load Tryz.isAgg25 rfl ((hb4.has (o := 2) rfl)) rfl) (l_q (q_len rfl Tryz.underlying25 rfl rfl) (l_q (qmi rfl rfl) (l_nil (r_forget [(0, .func (.yield l) ⟨[]⟩ ⟨[]⟩), (1, .pointer _), (2, .pointer _), (5, .pointer _), (9, .slice _ _ _), (10, .int _ _), (11, .int _ _), (22, .int _ _), (23, .int _ _)] ⟨rfl, rfl, rfl, rfl, rfl, rfl, rfl, rfl, rfl, trivial⟩ (fun e9 => (r_block ?_))))))))))
    refine r_rounds (α := Nat) (fun lo e wl => Knows e [(0, .func (.yield l) ⟨[]⟩ ⟨[]⟩), (1, ptr b 0), (2, ptr b2 0), (5, ptr b4 0), (9, .slice ja sl.length jc), (10, vint (sl.length : Int)), (11, vint (jn : Int)), (22, vint (((sl).getD jn sn00).xs.length : Int)), (23, vint (lo : Int))] ∧ (lo ≤ (sl.getD jn sn00).xs.length) ∧ (J (offJ se sl bf jn + offL (sl.getD jn sn00).xs lo) wl) ∧ (Blk wl b4 [vint (((sl).getD jn sn00).h), vint (((sl).getD jn sn00).st), .slice (((sl).getD jn sn00).a) (((sl).getD jn sn00).xs.length) (((sl).getD jn sn00).c)]) ∧ (TyAt wl b4 76) ∧ (w.heap.size ≤ wl.heap.size)) (fun lo => (sl.getD jn sn00).xs.length - lo) 0 ?_ ?_
    ·
     exact ⟨⟨rfl, rfl, rfl, rfl, rfl, rfl, rfl, rfl, rfl, trivial⟩, (Nat.zero_le _), (by rw [offL_zero, Nat.add_zero]; exact hJ), hb4, hty_b4, hsz⟩
    ·
     rintro lo el10 wl10 ⟨hkn, hklo, hJ, hb4, hty_b4, hsz⟩ ih10
     obtain ⟨e10, rfl⟩ := knows_env hkn
     refine r_seq (r_region' (l_q (q_lss rfl rfl rfl) (l_nil (r_seq (r_cond rfl (fun hc11 => ?_) (fun hc11 => ?_))))))
     ·
      replace hc11 := dt hc11
      refine r_skip (r_seq (r_block (r_seq (r_region' (l_q (qmi rfl rfl) (l_q (qai rfl rfl) (l_nil (r_seq (r_region' (l_q (qmi rfl rfl) (l_q (q_add rfl rfl (by omega) rfl) (l_q (qai rfl rfl) (l_nil (r_block ?_))))))))))))))
      refine r_rounds (α := Nat) (fun d e wl => Knows e [(0, .func (.yield l) ⟨[]⟩ ⟨[]⟩), (1, ptr b 0), (2, ptr b2 0), (5, ptr b4 0), (6, vint (lo : Int)), (7, vint ((lo + d + 1 : Nat) : Int)), (9, .slice ja sl.length jc), (10, vint (sl.length : Int)), (11, vint (jn : Int)), (22, vint (((sl).getD jn sn00).xs.length : Int)), (23, vint (lo : Int))] ∧ (d ≤ (sl.getD jn sn00).xs.length - lo) ∧ (J (offJ se sl bf jn + offL (sl.getD jn sn00).xs lo + d) wl) ∧ (Blk wl b4 [vint (((sl).getD jn sn00).h), vint (((sl).getD jn sn00).st), .slice (((sl).getD jn sn00).a) (((sl).getD jn sn00).xs.length) (((sl).getD jn sn00).c)]) ∧ (TyAt wl b4 76) ∧ (w.heap.size ≤ wl.heap.size)) (fun d => (sl.getD jn sn00).xs.length - lo - d) 0 ?_ ?_
      ·
       exact ⟨⟨rfl, rfl, rfl, rfl, rfl, (vint_eq (by omega)), rfl, rfl, rfl, rfl, rfl, trivial⟩, (Nat.zero_le _), (by rw [Nat.add_zero]; exact hJ), hb4, hty_b4, hsz⟩
      ·
       rintro d el12 wl12 ⟨hkn, hd, hJ, hb4, hty_b4, hsz⟩ ih12
       obtain ⟨e12, rfl⟩ := knows_env hkn
       refine r_seq (r_seq (r_region' (l_q (qmi rfl rfl) (l_q (q_fieldAddr (o' := 2) rfl fld76_2 rfl) (l_q (q_load Tryz.isAgg25 rfl ((hb4.has (o := 2) rfl)) rfl) (l_q (q_len rfl Tryz.underlying25 rfl rfl) (l_q (q_leq rfl rfl rfl) (l_nil (r_cond rfl (fun hc13 => ?_) (fun hc13 => ?_))))))))))
       ·
        replace hc13 := dt hc13
        refine r_skip (r_seq (r_block (r_seq (r_region' (l_q (q_move (v := .func (.yield l) ⟨[]⟩ ⟨[]⟩) rfl rfl) (l_q (q_fieldAddr (o' := 2) rfl fld76_2 rfl) (l_q (q_load Tryz.isAgg25 rfl ((hb4.has (o := 2) rfl)) rfl) (l_q (qmi rfl rfl) (l_q (qmi rfl rfl) ?_)))))))))
        obtain ⟨a14, c14, hr14, hv14⟩ := slice_ex (f := vint) (xs := ((sl).getD jn sn00).xs) ((lo : Int)) (((lo + d + 1 : Nat) : Int)) (RowsS.get ((hJb _ _ hJ).2.2.rslr) (i := jn) (by omega)) (by omega)
        refine l_q ((q_slice (lo := (lo : Int)) (hi := ((lo + d + 1 : Nat) : Int)) Tryz.underlying25 Tryz.sizeOf3 rfl rfl rfl (by omega) (RowsS.get ((hJb _ _ hJ).2.2.rslr) (i := jn) (by omega)).2.1 rfl).cast hv14) (l_o (o_yield rfl rfl (hy (offJ se sl bf jn + offL (sl.getD jn sn00).xs lo + d) _ (subOf (sl.getD jn sn00).xs lo (d + 1)) _ _ (pl_at (by omega) hhd (by omega) (by omega)) hJ (by omega) hr14) rfl ?_))
        rintro _ w15 ⟨y15, rfl, hJy, hEy, hF15, hzy15⟩
        replace hb4 := hb4.keep (hF15 _ hty_b4)
        replace hty_b4 := TyAt.keep hty_b4 (hF15 _ hty_b4)
        replace hsz := Nat.le_trans hsz hzy15
        refine l_q (q_not rfl rfl) (l_nil (r_forget [(0, .func (.yield l) ⟨[]⟩ ⟨[]⟩), (1, .pointer _), (2, .pointer _), (5, .pointer _), (6, .int _ _), (7, .int _ _), (9, .slice _ _ _), (10, .int _ _), (11, .int _ _), (22, .int _ _), (23, .int _ _), (42, .bool _)] ⟨rfl, rfl, rfl, rfl, rfl, rfl, rfl, rfl, rfl, rfl, rfl, rfl, trivial⟩ (fun e16 => (r_cond rfl (fun hc17 => ?_) (fun hc17 => ?_)))))
        ·
         replace hc17 := nt hc17
         have hE2 := hEy hc17
         refine r_ret_ (vs := []) rfl Tryz.func128 rfl (.nil _) trivial ?_
         exact .inr hE2
        ·
         replace hc17 := nf hc17
         have hJn := hJy hc17
         refine r_skip (r_inBlock (r_region' (l_q (qmi rfl rfl) (l_q (q_add rfl rfl (by omega) rfl) (l_q (qai rfl rfl) (l_nil ?_))))))
         exact ih12 (d + 1) _ _ ⟨⟨rfl, rfl, rfl, rfl, rfl, (vint_eq (by omega)), rfl, rfl, rfl, rfl, rfl, trivial⟩, (by omega), hJn, hb4, hty_b4, hsz⟩ (by first | omega | (dsimp only; omega))
       ·
        replace hc13 := dle hc13
        refine r_exit rfl (r_inBlock (r_region' (l_q (q_add rfl rfl (by omega) rfl) (l_q (qmi rfl rfl) (l_nil ?_)))))
        exact ih10 (lo + 1) _ _ ⟨⟨rfl, rfl, rfl, rfl, rfl, rfl, rfl, rfl, (vint_eq (by omega)), trivial⟩, (by omega), (by rw [offL_succ (by omega), show (sl.getD jn sn00).xs.length - lo = d by omega, ← Nat.add_assoc]; exact hJ), hb4, hty_b4, hsz⟩ (by first | omega | (dsimp only; omega))
     ·
      replace hc11 := dlt hc11
      refine r_exit rfl (r_inBlock (r_region' (l_q (q_add rfl rfl (by omega) rfl) (l_q (qmi rfl rfl) (l_nil ?_)))))
      exact ih1 (jn + 1) _ _ ⟨⟨rfl, rfl, rfl, rfl, rfl, (vint_eq (by omega)), trivial⟩, (by omega), (by rw [offJ_yes hjs hhd, show (subs (sl.getD jn sn00).xs).length = offL (sl.getD jn sn00).xs lo by rw [show lo = (sl.getD jn sn00).xs.length by omega, offL_end]]; exact hJ), hsz⟩ (by first | omega | (dsimp only; omega))
  ·
   replace hc2 := dlt hc2
   refine r_exit rfl (r_end_ (vs := []) rfl Tryz.func128 rfl (.nil _) trivial ?_)
   exact .inl (by rw [← offJ_end, ← show jn = sl.length by omega]; exact hJ)
theorem mstations_ret (ka : Option Addr) (kc : Nat) (co : List Sg) (er : Int) (sa : Option Addr) (sc : Nat) (se : List Int) (ja : Option Addr) (jc : Nat) (sl : List SN) (ra : Option Addr) (rc : Nat) (rl : List RC) (n : Nat) (w : World) (hlg : LgAt w ka kc co sa sc se ja jc sl ra rc rl) (hbg : LgBig co er se sl rl) (hok : faultM (lg co er se sl rl) = 0) (hn : n < rl.length) : Ret Tryz.prog 94 [.agg ⟨[.slice ka co.length kc, vint er, .slice sa se.length sc, .slice ja sl.length jc, .slice ra rl.length rc]⟩, vint (n : Int)] w (fun v w' => ∃ ra0 rc0, v = .slice ra0 (ownL (lg co er se sl rl) (rl.getD n rcd0)).length rc0 ∧ w'.ownsRow w.heap.size 3 1 (.slice ra0 (ownL (lg co er se sl rl) (rl.getD n rcd0)).length rc0) (ownL (lg co er se sl rl) (rl.getD n rcd0)).length ((ownL (lg co er se sl rl) (rl.getD n rcd0)).map vint) ∧ Ext w w') := by
 obtain ⟨⟨hcn, hcl⟩, hen, hsn, ⟨hjn, hjl⟩, hrn, hrl⟩ := id hbg
 obtain ⟨⟨hs1, hs4⟩, hj8, hr6, hf0, ⟨he0, he3⟩, hsr, hJn, hRn⟩ := lg_ok hok
 obtain ⟨⟨hrh0, hrh⟩, ⟨hrs0, hrs⟩, hrsf⟩ := hRn _ (getD_lt (d := rcd0) hn)
 have hB := Below.refl w.heap.size w
 have hsz : w.heap.size ≤ w.heap.size := Nat.le_refl _
 refine ret_of_runs (args := [_, _]) Tryz.func94 rfl (Nat.le_of_ble_eq_true rfl) (by kernel_rfl) (r_seq (r_region' (l_o (o_boxt rfl rfl rfl ?_))))
 intro b1 w1 hzl1 hzr1 _ hb1 hty_b1 hE1
 have hbs_b1 : w.heap.size ≤ b1 := Nat.le_trans hsz hzl1
 replace hB := below_ext hB hE1 hsz
 replace hsz := Nat.le_trans hsz hE1.size
 refine l_q (qas rfl rfl) (l_nil (r_seq (r_region' (l_q (q_fieldAddr (o' := 4) rfl fld38_4 rfl) (l_q (q_load Tryz.isAgg36 rfl ((hb1.has (o := 4) rfl)) rfl) (l_q (qmi rfl rfl) ?_))))))
 obtain ⟨b2, o2, ha2, hh2⟩ := (hlg.rrl.below hB).at (by decide) n (by omega)
 refine l_q (q_indexAddr Tryz.underlying36 Tryz.sizeOf75 rfl ha2 rfl (by omega) rfl) (l_q (q_load_agg (cs := [vint (((rl).getD n rcd0).h), vint (((rl).getD n rcd0).st), vstr (((rl).getD n rcd0).s)]) (n := 3) Tryz.isAgg75 Tryz.sizeOf75 rfl ((cells_cast (wide_at RC.len rcd0 _ _ (by omega)) hh2)) rfl rfl) (l_o (o_alloct Tryz.zeroValue75 rfl rfl ?_)))
 intro b3 w3 hzl3 hzr3 _ hb3 hty_b3 hE3
 have hne_b1_b3 : b1 ≠ b3 := by have := hb1.lt; omega
 have hbs_b3 : w.heap.size ≤ b3 := Nat.le_trans hsz hzl3
 replace hB := below_ext hB hE3 hsz
 replace hb1 := hb1.ext hE3
 replace hty_b1 := hty_b1.ext hE3
 replace hsz := Nat.le_trans hsz hE3.size
 refine l_o (o_storet (vs := [vint (((rl).getD n rcd0).h), vint (((rl).getD n rcd0).st), vstr (((rl).getD n rcd0).s)]) (cs' := [vint (((rl).getD n rcd0).h), vint (((rl).getD n rcd0).st), vstr (((rl).getD n rcd0).s)]) Tryz.sizeOf75 rfl rfl rfl rfl hb3 (Nat.le_of_ble_eq_true rfl) rfl rfl ?_)
 intro w4 hz4 hb3 hT4 hG4
 replace hB := below_upd hB hG4 hsz (by omega)
 replace hsz : w.heap.size ≤ w4.heap.size := by rw [hz4]; exact hsz
 replace hb1 := hb1.upd hG4 (by omega)
 replace hty_b1 := hty_b1.upd hG4 (by omega)
 replace hty_b3 := hT4 _ hty_b3
 refine l_nil (r_seq (r_seq (r_region' (l_q (q_fieldAddr (o' := 3) rfl fld38_3 rfl) (l_q (q_load Tryz.isAgg35 rfl ((hb1.has (o := 3) rfl)) rfl) (l_q (q_len rfl Tryz.underlying35 rfl rfl) (l_q (qmi rfl rfl) (l_nil (r_block ?_)))))))))
 refine r_rounds (α := Nat × (Option Addr) × Nat × (List Int)) (fun ⟨k, oa, oc, ys⟩ e wl => Knows e [(2, ptr b1 0), (4, .slice oa ((ys).length) oc), (5, ptr b3 0), (14, .slice ja sl.length jc), (15, vint (sl.length : Int)), (16, vint (k : Int))] ∧ (k ≤ sl.length) ∧ (ys = ownK (lg co er se sl rl) (rl.getD n rcd0) k) ∧ (wl.ownsRow w.heap.size 3 1 (.slice oa ((ys).length) oc) ((ys).length) ((ys).map vint)) ∧ (Blk wl b1 [.slice ka co.length kc, vint er, .slice sa se.length sc, .slice ja sl.length jc, .slice ra rl.length rc]) ∧ (TyAt wl b1 38) ∧ (Blk wl b3 [vint (((rl).getD n rcd0).h), vint (((rl).getD n rcd0).st), vstr (((rl).getD n rcd0).s)]) ∧ (TyAt wl b3 75) ∧ (w.heap.size ≤ wl.heap.size) ∧ (Below w.heap.size w wl)) (fun ⟨k, oa, oc, ys⟩ => sl.length - k) (0, none, 0, []) ?_ ?_
 ·
  exact ⟨⟨rfl, rfl, rfl, rfl, rfl, rfl, trivial⟩, (Nat.zero_le _), rfl, (World.ownsRow_nil _ _ _ _), hb1, hty_b1, hb3, hty_b3, hsz, hB⟩
 ·
  rintro ⟨k, oa, oc, ys⟩ el5 wl5 ⟨hkn, hkk, hys, ho, hb1, hty_b1, hb3, hty_b3, hsz, hB⟩ ih5
  obtain ⟨e5, rfl⟩ := knows_env hkn
  refine r_seq (r_region' (l_q (q_lss rfl rfl rfl) (l_nil (r_seq (r_cond rfl (fun hc6 => ?_) (fun hc6 => ?_))))))
  ·
   replace hc6 := dt hc6
   have hks : k < sl.length := by omega
   have hjx := hjl _ (getD_lt (d := sn00) hks)
   have hsx := sn_of hJn hks
   have hyl : ys.length ≤ k := by rw [hys]; exact ownK_len
   refine r_skip (r_seq (r_block (r_seq (r_region' (l_q (qmi rfl rfl) ?_)))))
   obtain ⟨b7, o7, ha7, hh7⟩ := (hlg.rsl.below hB).at (by decide) k (by omega)
   refine l_q (q_indexAddr Tryz.underlying35 Tryz.sizeOf76 rfl ha7 rfl (by omega) rfl) (l_q (q_load_agg (cs := [vint (((sl).getD k sn00).h), vint (((sl).getD k sn00).st), .slice (((sl).getD k sn00).a) (((sl).getD k sn00).xs.length) (((sl).getD k sn00).c)]) (n := 3) Tryz.isAgg76 Tryz.sizeOf76 rfl ((cells_cast (wide_at SN.len sn00 _ _ (by omega)) hh7)) rfl rfl) (l_o (o_alloct Tryz.zeroValue76 rfl rfl ?_)))
   intro b8 w8 hzl8 hzr8 _ hb8 hty_b8 hE8
   have hne_b1_b8 : b1 ≠ b8 := by have := hb1.lt; omega
   have hne_b3_b8 : b3 ≠ b8 := by have := hb3.lt; omega
   have hbs_b8 : w.heap.size ≤ b8 := Nat.le_trans hsz hzl8
   replace hB := below_ext hB hE8 hsz
   replace hb1 := hb1.ext hE8
   replace hty_b1 := hty_b1.ext hE8
   replace hb3 := hb3.ext hE8
   replace hty_b3 := hty_b3.ext hE8
   replace ho := own_ext ho hE8
   replace hsz := Nat.le_trans hsz hE8.size
   refine l_q (qai rfl rfl) (l_o (o_storet (vs := [vint (((sl).getD k sn00).h), vint (((sl).getD k sn00).st), .slice (((sl).getD k sn00).a) (((sl).getD k sn00).xs.length) (((sl).getD k sn00).c)]) (cs' := [vint (((sl).getD k sn00).h), vint (((sl).getD k sn00).st), .slice (((sl).getD k sn00).a) (((sl).getD k sn00).xs.length) (((sl).getD k sn00).c)]) Tryz.sizeOf76 rfl rfl rfl rfl hb8 (Nat.le_of_ble_eq_true rfl) rfl rfl ?_))
   intro w9 hz9 hb8 hT9 hG9
   replace hB := below_upd hB hG9 hsz (by omega)
   replace hsz : w.heap.size ≤ w9.heap.size := by rw [hz9]; exact hsz
   replace hb1 := hb1.upd hG9 (by omega)
   replace hty_b1 := hty_b1.upd hG9 (by omega)
   replace hb3 := hb3.upd hG9 (by omega)
   replace hty_b3 := hty_b3.upd hG9 (by omega)
   replace ho := own_ty_upd ho hty_b8 hG9 (by decide)
   refine l_nil (r_seq (r_region' (l_q (q_fieldAddr (o' := 0) rfl fld76_0 rfl) (l_q (q_load Tryz.isAgg3 rfl ((hb8.has (o := 0) rfl)) rfl) (l_q (q_fieldAddr (o' := 0) rfl fld75_0 rfl) (l_q (q_load Tryz.isAgg3 rfl ((hb3.has (o := 0) rfl)) rfl) (l_q (q_eql rfl rfl rfl) (l_q (qmb rfl rfl) (l_part 26 rfl (fun hc10 => ?_) (fun hc10 => ?_))))))))))
   ·
    replace hc10 := dt hc10
    have g26 := hc10
    refine l_q (q_fieldAddr (o' := 1) rfl fld76_1 rfl) (l_q (q_load Tryz.isAgg3 rfl ((hb8.has (o := 1) rfl)) rfl) (l_q (q_fieldAddr (o' := 1) rfl fld75_1 rfl) (l_q (q_load Tryz.isAgg3 rfl ((hb3.has (o := 1) rfl)) rfl) (l_q (q_eql rfl rfl rfl) (l_q (q_pick_t (v := .bool _) rfl rfl rfl) (l_q (qmb rfl rfl) (l_part 33 rfl (fun hc11 => ?_) (fun hc11 => ?_))))))))
    ·
     replace hc11 := dt hc11
     have g33 := hc11
     refine l_q (q_load_agg (n := 5) Tryz.isAgg38 Tryz.sizeOf38 rfl ((hb1.cells' (cs' := [_, _, _, _, _]) 0 5 rfl)) rfl rfl) (l_q (q_fieldAddr (o' := 2) rfl fld76_2 rfl) (l_q (q_load Tryz.isAgg25 rfl ((hb8.has (o := 2) rfl)) rfl) (l_q (q_fieldAddr (o' := 2) rfl fld75_2 rfl) (l_q (q_load Tryz.isAgg9 rfl ((hb3.has (o := 2) rfl)) rfl) (l_o (o_call Tryz.call69 rfl (mreads_ret ka kc co er sa sc se ja jc sl ra rc rl ((sl).getD k sn00).a ((sl).getD k sn00).c (((sl).getD k sn00).xs) (rl.getD n rcd0).s _ (hlg.below hB) hbg ((RowsS.get (hlg.rslr) (i := k) (by omega)).below hB) (by omega) hf0 he3 hsx.2.2.1.2 hsx.2.2.2 hrsf) rfl ?_))))))
     rintro _ w12 ⟨rfl, hE12⟩
     replace hB := below_ext hB hE12 hsz
     replace hb1 := hb1.ext hE12
     replace hty_b1 := hty_b1.ext hE12
     replace hb3 := hb3.ext hE12
     replace hty_b3 := hty_b3.ext hE12
     replace ho := own_ext ho hE12
     replace hb8 := hb8.ext hE12
     replace hsz := Nat.le_trans hsz hE12.size
     refine l_q (q_pick_t (v := .bool _) rfl rfl rfl) (l_nil (r_forget [(2, .pointer _), (4, .slice _ _ _), (5, .pointer _), (6, .int _ _), (14, .slice _ _ _), (15, .int _ _), (16, .int _ _), (40, .bool _)] ⟨rfl, rfl, rfl, rfl, rfl, rfl, rfl, rfl, trivial⟩ (fun e13 => (r_cond rfl (fun hc14 => ?_) (fun hc14 => ?_)))))
     ·
      have g40 := hc14
      refine r_region' (l_q (qms rfl rfl) (l_q (qmi rfl rfl) (l_o (o_buildSlice (el := 3) (cs := [vint (k : Int)]) Tryz.underlying25 el3 (by decide) (by kernel_rfl) rfl (by decide) rfl ?_))))
      intro b15 w15 hzl15 hzr15 _ hb15 hE15 ho15
      have hne_b1_b15 : b1 ≠ b15 := by have := hb1.lt; omega
      have hne_b3_b15 : b3 ≠ b15 := by have := hb3.lt; omega
      have hne_b8_b15 : b8 ≠ b15 := by have := hb8.lt; omega
      have hbs_b15 : w.heap.size ≤ b15 := Nat.le_trans hsz hzl15
      replace hB := below_ext hB hE15 hsz
      replace hb1 := hb1.ext hE15
      replace hty_b1 := hty_b1.ext hE15
      replace hb3 := hb3.ext hE15
      replace hty_b3 := hty_b3.ext hE15
      replace ho := own_ext ho hE15
      replace hsz := Nat.le_trans hsz hE15.size
      refine l_o (o_append_map (f := vint) (ys) ([(k : Int)]) Tryz.underlying25 el3 rfl rfl ho rfl (Row.of_owns ho15) (fun _ => rfl) (by (try simp only [List.length_append, List.length_cons, List.length_nil, List.length_take, List.length_drop, List.length_replicate]); omega) (by omega) rfl ?_)
      intro a16 c16 w16 hz16 ho16 hG16
      replace hB := below_own hB hG16 ho (by omega) hsz
      replace hsz := Nat.le_trans hsz hG16.size
      replace hb1 := hb1.step hG16 (own_ty_ne ho hty_b1 (by decide))
      replace hb3 := hb3.step hG16 (own_ty_ne ho hty_b3 (by decide))
      replace hty_b1 := TyAt.own hty_b1 ho hG16 (by decide)
      replace hty_b3 := TyAt.own hty_b3 ho hG16 (by decide)
      refine l_q (qas rfl rfl) (l_nil (r_inBlock (r_region' (l_q (q_add rfl rfl (by omega) rfl) (l_q (qmi rfl rfl) (l_nil ?_))))))
      exact ih5 (k + 1, a16, c16, (ys ++ [(k : Int)])) _ _ ⟨⟨rfl, rfl, rfl, rfl, rfl, (vint_eq (by omega)), trivial⟩, (by omega), (by rw [hys]; exact ownK_yes (by omega) g26 g33 g40), ho16, hb1, hty_b1, hb3, hty_b3, hsz, hB⟩ (by first | omega | (dsimp only; omega))
     ·
      have g40 := hc14
      refine r_skip (r_inBlock (r_region' (l_q (q_add rfl rfl (by omega) rfl) (l_q (qmi rfl rfl) (l_nil ?_)))))
      exact ih5 (k + 1, oa, oc, ys) _ _ ⟨⟨rfl, rfl, rfl, rfl, rfl, (vint_eq (by omega)), trivial⟩, (by omega), (by rw [hys]; exact ownK_no (by omega) (own_no3 g40)), ho, hb1, hty_b1, hb3, hty_b3, hsz, hB⟩ (by first | omega | (dsimp only; omega))
    ·
     replace hc11 := df hc11
     have g33 := hc11
     refine l_q (q_skip rfl) (l_q (q_skip rfl) (l_q (q_skip rfl) (l_q (q_skip rfl) (l_q (q_skip rfl) (l_q (q_skip rfl) (l_q (q_pick_f (v := .bool _) rfl rfl rfl) (l_nil (r_forget [(2, .pointer _), (4, .slice _ _ _), (5, .pointer _), (6, .int _ _), (14, .slice _ _ _), (15, .int _ _), (16, .int _ _), (40, .bool _)] ⟨rfl, rfl, rfl, rfl, rfl, rfl, rfl, rfl, trivial⟩ (fun e17 => (r_cond_f rfl (r_skip (r_inBlock (r_region' (l_q (q_add rfl rfl (by omega) rfl) (l_q (qmi rfl rfl) (l_nil ?_))))))))))))))))
     exact ih5 (k + 1, oa, oc, ys) _ _ ⟨⟨rfl, rfl, rfl, rfl, rfl, (vint_eq (by omega)), trivial⟩, (by omega), (by rw [hys]; exact ownK_no (by omega) (own_no2 g33)), ho, hb1, hty_b1, hb3, hty_b3, hsz, hB⟩ (by first | omega | (dsimp only; omega))
   ·
    replace hc10 := df hc10
    have g26 := hc10
    refine l_q (q_skip rfl) (l_q (q_skip rfl) (l_q (q_skip rfl) (l_q (q_skip rfl) (l_q (q_skip rfl) (l_q (q_pick_f (v := .bool _) rfl rfl rfl) (l_q (qmb rfl rfl) (l_q (q_skip rfl) (l_q (q_skip rfl) (l_q (q_skip rfl) (l_q (q_skip rfl) (l_q (q_skip rfl) (l_q (q_skip rfl) (l_q (q_pick_f (v := .bool _) rfl rfl rfl) (l_nil (r_forget [(2, .pointer _), (4, .slice _ _ _), (5, .pointer _), (6, .int _ _), (14, .slice _ _ _), (15, .int _ _), (16, .int _ _), (40, .bool _)] ⟨rfl, rfl, rfl, rfl, rfl, rfl, rfl, rfl, trivial⟩ (fun e18 => (r_cond_f rfl (r_skip (r_inBlock (r_region' (l_q (q_add rfl rfl (by omega) rfl) (l_q (qmi rfl rfl) (l_nil ?_)))))))))))))))))))))))
    exact ih5 (k + 1, oa, oc, ys) _ _ ⟨⟨rfl, rfl, rfl, rfl, rfl, (vint_eq (by omega)), trivial⟩, (by omega), (by rw [hys]; exact ownK_no (by omega) (own_no1 g26)), ho, hb1, hty_b1, hb3, hty_b3, hsz, hB⟩ (by first | omega | (dsimp only; omega))
  ·
   replace hc6 := dlt hc6
   refine r_exit rfl (r_seq (r_region' (l_q (qms rfl rfl) (l_q (qas rfl rfl) (l_nil (r_ret_ (vs := [.slice _ _ _]) rfl Tryz.func94 rfl (.nil _) ⟨rfl, trivial⟩ ?_))))))
   obtain rfl : k = sl.length := by omega
   rw [ownK_end] at hys
   subst hys
   exact ⟨_, _, rfl, ho, Ext.of_below hB⟩
end Go.Proofs.YtekkdhpgcilpdaaGreat
