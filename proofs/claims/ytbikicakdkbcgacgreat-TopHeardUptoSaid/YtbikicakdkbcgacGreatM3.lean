/- Contracts. -/
import Derived.Test.YtbikicakdkbcgacGreatM2
set_option linter.unusedVariables false
set_option linter.unusedSimpArgs false
namespace Go.Proofs.YtbikicakdkbcgacGreat
open Go Go.RowKit Go.Gv Go.Fl

def FrT (T : TypeId) (w w' : World) : Prop := ∀ b, TyAt w b T → w'.heap[b]? = w.heap[b]?
theorem TyAt.keep {w w' : World} {b T : Nat} (h : TyAt w b T) (hk : w'.heap[b]? = w.heap[b]?) : TyAt w' b T := by
  obtain ⟨cs, h⟩ := h
  exact ⟨cs, hk.trans h⟩
theorem FrT.refl (T : TypeId) (w : World) : FrT T w w := fun _ _ => rfl
theorem FrT.trans {T : TypeId} {a b c : World} (h : FrT T a b) (h2 : FrT T b c) : FrT T a c := fun k hk => (h2 k (TyAt.keep hk (h k hk))).trans (h k hk)
theorem FrT.of_ext {T : TypeId} {w w' : World} (h : Ext w w') : FrT T w w' := fun b hb => h.block b hb.lt (by simp)
theorem FrT.upd {T T' : TypeId} {w0 w w' : World} {b0 : Nat} (h : FrT T w0 w) (hG : w.grownBy w' (some b0)) (ht : TyAt w b0 T') (hne : T ≠ T') : FrT T w0 w' := h.trans fun b hb => hG.block b hb.lt (fun he => by
  have e : b = b0 := by simpa using he
  subst e
  obtain ⟨c1, h1⟩ := hb
  obtain ⟨c2, h2⟩ := ht
  rw [h1] at h2
  injection h2 with h2
  injection h2 with _ h3
  exact hne h3)
theorem FrT.own {T : TypeId} {w0 w w' : World} {base el sz n : Nat} {v : Value} {xs : List Value} (h : FrT T w0 w) (ho : w.ownsRow base el sz v n xs) (hG : w.grownBy w' v.ownBlock) (hne : el ≠ T) : FrT T w0 w' := h.trans fun b hb => hG.block b hb.lt (own_ty_ne ho hb hne)
theorem FrT.loop {T : TypeId} {w0 w w' : World} {l n : Nat} {s : LoopState} {p : Option Code} {f : FuncId} {e : Env} {ps : List Tmp} {x y : Code} (h : FrT T w0 w) (hG : w.grownBy w' (some l)) (hl : LoopAt w l s p f n e ps x y) : FrT T w0 w' := h.trans fun b hb => hG.block b hb.lt (fun he => by
  have e : b = l := by simpa using he
  subst e
  obtain ⟨c1, h1⟩ := hb
  obtain ⟨t, db, h2, _⟩ := hl
  rw [h1] at h2
  cases h2)
theorem ext_put {w w1 w2 : World} {b : Nat} (h : Ext w w1) (hG : w1.grownBy w2 (some b)) (hb : w.heap.size ≤ b) : Ext w w2 :=
  ⟨hG.os.trans h.os, hG.tape.trans h.tape, hG.output.trans h.output, Nat.le_trans h.size hG.size, fun k hk hn => (hG.block k (Nat.lt_of_lt_of_le hk h.size) (fun he => by
    have e : k = b := by simpa using he
    omega)).trans (h.block k hk hn)⟩
def plS (se : List Int) (sl : List SN) (bf : Int) : List (List Int) := sl.flatMap (fun s => if heardB se s.pn bf = true then subs s.xs else [])
theorem plS_eq {co : List Sg} {er : Int} {se : List Int} {sl : List SN} {rl : List RC} {bf : Int} : partsL (lg co er se sl rl) bf = plS se sl bf := by unfold partsL lg plS; rw [List.flatMap_map]; rfl
def offJ (se : List Int) (sl : List SN) (bf : Int) (jn : Nat) : Nat := (plS se (sl.take jn) bf).length
def offL (xs : List Int) (lo : Nat) : Nat := ((List.range lo).flatMap (fun lo => (List.range (xs.length - lo)).map (fun d => subOf xs lo (d + 1)))).length
section
variable {se : List Int} {sl : List SN} {bf : Int} {jn lo d : Nat} {xs : List Int}
theorem offJ_zero : offJ se sl bf 0 = 0 := by unfold offJ plS; rw [List.take_zero]; rfl
theorem offJ_end : offJ se sl bf sl.length = (plS se sl bf).length := by unfold offJ; rw [List.take_length]
theorem plS_succ (h : jn < sl.length) : plS se (sl.take (jn + 1)) bf = plS se (sl.take jn) bf ++ (if heardB se (sl.getD jn sn00).pn bf = true then subs (sl.getD jn sn00).xs else []) := by
  unfold plS
  rw [List.take_add_one, List.getElem?_eq_getElem h, List.flatMap_append, List.getD_eq_getElem?_getD, List.getElem?_eq_getElem h]
  simp
theorem offJ_no (h : jn < sl.length) (hh : heardB se (sl.getD jn sn00).pn bf = false) : offJ se sl bf (jn + 1) = offJ se sl bf jn := by
  unfold offJ
  rw [plS_succ h, if_neg (by rw [hh]; decide), List.append_nil]
theorem offJ_yes (h : jn < sl.length) (hh : heardB se (sl.getD jn sn00).pn bf = true) : offJ se sl bf (jn + 1) = offJ se sl bf jn + (subs (sl.getD jn sn00).xs).length := by
  unfold offJ
  rw [plS_succ h, if_pos hh, List.length_append]
theorem offL_zero : offL xs 0 = 0 := rfl
theorem offL_end : offL xs xs.length = (subs xs).length := rfl
theorem offL_succ (h : lo < xs.length) : offL xs (lo + 1) = offL xs lo + (xs.length - lo) := by
  unfold offL
  rw [List.range_succ, List.flatMap_append, List.length_append]
  simp
theorem subs_at (h : lo < xs.length) (hd : d < xs.length - lo) : (subs xs)[offL xs lo + d]? = some (subOf xs lo (d + 1)) := by
  have h1 : List.range xs.length = List.range lo ++ lo :: (List.range (xs.length - lo - 1)).map (fun i => lo + 1 + i) := by
    apply List.ext_getElem
    · simp; omega
    · intro i h1 h2
      simp only [List.getElem_range]
      rcases Nat.lt_trichotomy i lo with h3 | rfl | h3
      · rw [List.getElem_append_left (by simpa using h3)]; simp
      · rw [List.getElem_append_right (by simp)]; simp
      · rw [List.getElem_append_right (by simp; omega)]
        rw [List.getElem_cons]
        split
        · simp at *; omega
        · simp at *; omega
  unfold subs
  rw [h1, List.flatMap_append, List.getElem?_append_right (by unfold offL; omega)]
  show (List.flatMap _ (lo :: _))[offL xs lo + d - offL xs lo]? = _
  rw [Nat.add_sub_cancel_left, List.flatMap_cons, List.getElem?_append_left (by simpa using hd), List.getElem?_map, List.getElem?_range hd]
  rfl
theorem pl_at (h : jn < sl.length) (hh : heardB se (sl.getD jn sn00).pn bf = true) (hlo : lo < (sl.getD jn sn00).xs.length) (hd : d < (sl.getD jn sn00).xs.length - lo) : (plS se sl bf)[offJ se sl bf jn + offL (sl.getD jn sn00).xs lo + d]? = some (subOf (sl.getD jn sn00).xs lo (d + 1)) := by
  have h1 : sl = sl.take jn ++ (sl.getD jn sn00) :: sl.drop (jn + 1) := by
    rw [← drop_getD h, List.take_append_drop]
  have h2 : plS se sl bf = plS se (sl.take jn) bf ++ (subs (sl.getD jn sn00).xs ++ plS se (sl.drop (jn + 1)) bf) := by
    have h3 : plS se sl bf = plS se (sl.take jn ++ (sl.getD jn sn00) :: sl.drop (jn + 1)) bf := congrArg (fun z => plS se z bf) h1
    rw [h3]
    unfold plS
    rw [List.flatMap_append, List.flatMap_cons, if_pos hh]
  rw [h2, List.getElem?_append_right (by unfold offJ; omega)]
  show (subs (sl.getD jn sn00).xs ++ _)[offJ se sl bf jn + offL (sl.getD jn sn00).xs lo + d - offJ se sl bf jn]? = _
  have h4 := subs_at hlo hd
  rw [show offJ se sl bf jn + offL (sl.getD jn sn00).xs lo + d - offJ se sl bf jn = offL (sl.getD jn sn00).xs lo + d by omega, List.getElem?_append_left (by
    rcases Nat.lt_or_ge (offL (sl.getD jn sn00).xs lo + d) (subs (sl.getD jn sn00).xs).length with h5 | h5
    · exact h5
    · rw [List.getElem?_eq_none h5] at h4; cases h4)]
  exact h4
end

section
variable {co : List Sg} {er : Int} {se : List Int} {sl : List SN} {rl : List RC} {r : RC} {k : Nat}
end


theorem mparts1_ret (l b b2 : Nat) (ka : Option Addr) (kc : Nat) (co : List Sg) (er : Int) (sa : Option Addr) (sc : Nat) (se : List Int) (ja : Option Addr) (jc : Nat) (sl : List SN) (ra : Option Addr) (rc : Nat) (rl : List RC) (bf : Int) (J : Nat → World → Prop) (E : World → Prop) (w : World) (hbg : LgBig co er se sl rl) (hst : ∀ x ∈ sl, 0 ≤ x.st ∧ x.st ≤ (se.length : Int) - 1) (h0 : J 0 w) (hJb : ∀ k w, J k w → Blk w b [.slice ka co.length kc, vint er, .slice sa se.length sc, .slice ja sl.length jc, .slice ra rl.length rc] ∧ Blk w b2 [vint bf] ∧ LgAt w ka kc co sa sc se ja jc sl ra rc rl) (hJs : ∀ k w1 w2, J k w1 → Ext w1 w2 → J k w2) (hy : ∀ (k : Nat) (w1 : World) (t : List Int) (ya : Option Addr) (yc : Nat), (plS se sl bf)[k]? = some t → J k w1 → w.heap.size ≤ w1.heap.size → Row w1 ya t.length yc 1 (t.map vint) → YieldAt Tryz.prog l [.slice ya t.length yc] w1 (fun v w2 => ∃ y : Bool, v = .bool y ∧ (y = true → J (k + 1) w2) ∧ (y = false → E w2) ∧ FrT 55 w1 w2 ∧ w1.heap.size ≤ w2.heap.size)) : Ret Tryz.prog 88 [.func (.yield l) ⟨[]⟩ ⟨[]⟩, ptr b 0, ptr b2 0] w (fun v w' => J (plS se sl bf).length w' ∨ E w') := by
 obtain ⟨⟨hcn, hcl⟩, hen, hsn, ⟨hjn, hjl⟩, hrn, hrl⟩ := id hbg
 have hJ := h0
 have hsz : w.heap.size ≤ w.heap.size := Nat.le_refl _
 refine ret_of_runs (args := [_, _, _]) Tryz.func88 rfl (Nat.le_of_ble_eq_true rfl) (by kernel_rfl) (r_seq (r_region' (l_q (q_fieldAddr (o' := 3) rfl fld43_3 rfl) (l_q (q_load Tryz.isAgg40 rfl (((hJb _ _ hJ).1.has (o := 3) rfl)) rfl) (l_q (q_len rfl Tryz.underlying40 rfl rfl) (l_q (qmi rfl rfl) (l_nil (r_block (r_rounds (α := Nat) (fun jn e wl => Knows e [(0, .func (.yield l) ⟨[]⟩ ⟨[]⟩), (1, ptr b 0), (2, ptr b2 0), (9, .slice ja sl.length jc), (10, vint (sl.length : Int)), (11, vint (jn : Int))] ∧ (jn ≤ sl.length) ∧ (J (offJ se sl bf jn) wl) ∧ (w.heap.size ≤ wl.heap.size)) (fun jn => sl.length - jn) 0 ?_ ?_)))))))))
 ·
  exact ⟨⟨rfl, rfl, rfl, rfl, rfl, rfl, trivial⟩, (Nat.zero_le _), (by rw [offJ_zero]; exact hJ), hsz⟩
 ·
  rintro jn el1 wl1 ⟨hkn, hkjn, hJ, hsz⟩ ih1
  obtain ⟨e1, rfl⟩ := knows_env hkn
  refine r_seq (r_region' (l_q (q_lss rfl rfl rfl) (l_nil (r_seq (r_cond rfl (fun hc2 => ?_) (fun hc2 => ?_))))))
  ·
   replace hc2 := dt hc2
   have hjs : jn < sl.length := by omega
   have hjx := hjl _ (getD_lt (d := sn00) hjs)
   refine r_skip (r_seq (r_block (r_seq (r_region' ?_))))
   obtain ⟨b3, o3, ha3, hh3⟩ := (hJb _ _ hJ).2.2.rsl.at (by decide) jn (by omega)
   refine l_q (q_indexAddr Tryz.underlying40 Tryz.sizeOf55 rfl ha3 rfl (by omega) rfl) (l_q (q_load_agg (cs := [vint (((sl).getD jn sn00).h), vint (((sl).getD jn sn00).st), .slice (((sl).getD jn sn00).a) (((sl).getD jn sn00).xs.length) (((sl).getD jn sn00).c)]) (n := 3) Tryz.isAgg55 Tryz.sizeOf55 rfl ((cells_cast (wide_at SN.len sn00 _ _ (by omega)) hh3)) rfl rfl) ?_)
   have hJa := hJ
   refine l_o (o_alloct Tryz.zeroValue55 rfl rfl ?_)
   intro b4 w4 hzl4 hzr4 _ hb4 hty_b4 hE4
   have hne_b_b4 : b ≠ b4 := by have := (hJb _ _ hJ).1.lt; omega
   have hne_b2_b4 : b2 ≠ b4 := by have := (hJb _ _ hJ).2.1.lt; omega
   have hbs_b4 : w.heap.size ≤ b4 := Nat.le_trans hsz hzl4
   replace hJ := hJs _ _ _ hJ hE4
   replace hsz := Nat.le_trans hsz hE4.size
   refine l_o (o_storet (vs := [vint (((sl).getD jn sn00).h), vint (((sl).getD jn sn00).st), .slice (((sl).getD jn sn00).a) (((sl).getD jn sn00).xs.length) (((sl).getD jn sn00).c)]) (cs' := [vint (((sl).getD jn sn00).h), vint (((sl).getD jn sn00).st), .slice (((sl).getD jn sn00).a) (((sl).getD jn sn00).xs.length) (((sl).getD jn sn00).c)]) Tryz.sizeOf55 rfl rfl rfl rfl hb4 (Nat.le_of_ble_eq_true rfl) rfl rfl ?_)
   intro w5 hz5 hb4 hT5 hG5
   replace hsz : w.heap.size ≤ w5.heap.size := by rw [hz5]; exact hsz
   replace hJ := hJs _ _ _ hJa (ext_put hE4 hG5 hzl4)
   replace hty_b4 := hT5 _ hty_b4
   refine l_nil (r_seq (r_seq (r_region' (l_q (q_load_agg (n := 5) Tryz.isAgg43 Tryz.sizeOf43 rfl (((hJb _ _ hJ).1.cells' (cs' := [_, _, _, _, _]) 0 5 rfl)) rfl rfl) (l_q (q_load_agg (n := 3) Tryz.isAgg55 Tryz.sizeOf55 rfl ((hb4.cells' (cs' := [_, _, _]) 0 3 rfl)) rfl rfl) (l_q (q_load Tryz.isAgg3 rfl (((hJb _ _ hJ).2.1.has (o := 0) rfl)) rfl) (l_o (o_call Tryz.call89 rfl (mheard_ret ka kc co er sa sc se ja jc sl ra rc rl (sl.getD jn sn00) bf _ (hJb _ _ hJ).2.2.rse hsn (hst _ (getD_lt (d := sn00) hjs))) rfl ?_))))))))
   rintro _ w6 ⟨rfl, hE6⟩
   replace hJ := hJs _ _ _ hJ hE6
   replace hb4 := hb4.ext hE6
   replace hty_b4 := hty_b4.ext hE6
   replace hsz := Nat.le_trans hsz hE6.size
   refine l_q (q_not rfl rfl) (l_nil (r_cond rfl (fun hc7 => ?_) (fun hc7 => ?_)))
   ·
    replace hc7 := nt hc7
    have hhd := hc7
    refine r_exit rfl (r_region' (l_q (q_add rfl rfl (by omega) rfl) (l_q (qmi rfl rfl) (l_nil (r_forget [(0, .func (.yield l) ⟨[]⟩ ⟨[]⟩), (1, .pointer _), (2, .pointer _), (9, .slice _ _ _), (10, .int _ _), (11, .int _ _)] ⟨rfl, rfl, rfl, rfl, rfl, rfl, trivial⟩ (fun e8 => ?_))))))
    exact ih1 (jn + 1) _ _ ⟨⟨rfl, rfl, rfl, rfl, rfl, (vint_eq (by omega)), trivial⟩, (by omega), (by rw [offJ_no hjs hhd]; exact hJ), hsz⟩ (by first | omega | (dsimp only; omega))
   ·
    replace hc7 := nf hc7
    have hhd := hc7
    refine r_skip (r_seq (r_region' (l_q (q_fieldAddr (o' := 2) rfl fld55_2 rfl) (l_q (q_load Tryz.isAgg31 rfl ((hb4.has (o := 2) rfl)) rfl) (l_q (q_len rfl Tryz.underlying31 rfl rfl) (l_q (qmi rfl rfl) (l_nil (r_forget [(0, .func (.yield l) ⟨[]⟩ ⟨[]⟩), (1, .pointer _), (2, .pointer _), (5, .pointer _), (9, .slice _ _ _), (10, .int _ _), (11, .int _ _), (22, .int _ _), (23, .int _ _)] ⟨rfl, rfl, rfl, rfl, rfl, rfl, rfl, rfl, rfl, trivial⟩ (fun e9 => (r_block ?_))))))))))
    refine r_rounds (α := Nat) (fun lo e wl => Knows e [(0, .func (.yield l) ⟨[]⟩ ⟨[]⟩), (1, ptr b 0), (2, ptr b2 0), (5, ptr b4 0), (9, .slice ja sl.length jc), (10, vint (sl.length : Int)), (11, vint (jn : Int)), (22, vint (((sl).getD jn sn00).xs.length : Int)), (23, vint (lo : Int))] ∧ (lo ≤ (sl.getD jn sn00).xs.length) ∧ (J (offJ se sl bf jn + offL (sl.getD jn sn00).xs lo) wl) ∧ (Blk wl b4 [vint (((sl).getD jn sn00).h), vint (((sl).getD jn sn00).st), .slice (((sl).getD jn sn00).a) (((sl).getD jn sn00).xs.length) (((sl).getD jn sn00).c)]) ∧ (TyAt wl b4 55) ∧ (w.heap.size ≤ wl.heap.size)) (fun lo => (sl.getD jn sn00).xs.length - lo) 0 ?_ ?_
    ·
     exact ⟨⟨rfl, rfl, rfl, rfl, rfl, rfl, rfl, rfl, rfl, trivial⟩, (Nat.zero_le _), (by rw [offL_zero, Nat.add_zero]; exact hJ), hb4, hty_b4, hsz⟩
    ·
     rintro lo el10 wl10 ⟨hkn, hklo, hJ, hb4, hty_b4, hsz⟩ ih10
     obtain ⟨e10, rfl⟩ := knows_env hkn
     refine r_seq (r_region' (l_q (q_lss rfl rfl rfl) (l_nil (r_seq (r_cond rfl (fun hc11 => ?_) (fun hc11 => ?_))))))
     ·
      replace hc11 := dt hc11
      refine r_skip (r_seq (r_block (r_seq (r_region' (l_q (qmi rfl rfl) (l_q (qai rfl rfl) (l_nil (r_seq (r_region' (l_q (qmi rfl rfl) (l_q (q_add rfl rfl (by omega) rfl) (l_q (qai rfl rfl) (l_nil (r_block ?_))))))))))))))
      refine r_rounds (α := Nat) (fun d e wl => Knows e [(0, .func (.yield l) ⟨[]⟩ ⟨[]⟩), (1, ptr b 0), (2, ptr b2 0), (5, ptr b4 0), (6, vint (lo : Int)), (7, vint ((lo + d + 1 : Nat) : Int)), (9, .slice ja sl.length jc), (10, vint (sl.length : Int)), (11, vint (jn : Int)), (22, vint (((sl).getD jn sn00).xs.length : Int)), (23, vint (lo : Int))] ∧ (d ≤ (sl.getD jn sn00).xs.length - lo) ∧ (J (offJ se sl bf jn + offL (sl.getD jn sn00).xs lo + d) wl) ∧ (Blk wl b4 [vint (((sl).getD jn sn00).h), vint (((sl).getD jn sn00).st), .slice (((sl).getD jn sn00).a) (((sl).getD jn sn00).xs.length) (((sl).getD jn sn00).c)]) ∧ (TyAt wl b4 55) ∧ (w.heap.size ≤ wl.heap.size)) (fun d => (sl.getD jn sn00).xs.length - lo - d) 0 ?_ ?_
      ·
       exact ⟨⟨rfl, rfl, rfl, rfl, rfl, (vint_eq (by omega)), rfl, rfl, rfl, rfl, rfl, trivial⟩, (Nat.zero_le _), (by rw [Nat.add_zero]; exact hJ), hb4, hty_b4, hsz⟩
      ·
       rintro d el12 wl12 ⟨hkn, hd, hJ, hb4, hty_b4, hsz⟩ ih12
       obtain ⟨e12, rfl⟩ := knows_env hkn
       refine r_seq (r_seq (r_region' (l_q (qmi rfl rfl) (l_q (q_fieldAddr (o' := 2) rfl fld55_2 rfl) (l_q (q_load Tryz.isAgg31 rfl ((hb4.has (o := 2) rfl)) rfl) (l_q (q_len rfl Tryz.underlying31 rfl rfl) (l_q (q_leq rfl rfl rfl) (l_nil (r_cond rfl (fun hc13 => ?_) (fun hc13 => ?_))))))))))
       ·
        replace hc13 := dt hc13
        refine r_skip (r_seq (r_block (r_seq (r_region' (l_q (q_move (v := .func (.yield l) ⟨[]⟩ ⟨[]⟩) rfl rfl) (l_q (q_fieldAddr (o' := 2) rfl fld55_2 rfl) (l_q (q_load Tryz.isAgg31 rfl ((hb4.has (o := 2) rfl)) rfl) (l_q (qmi rfl rfl) (l_q (qmi rfl rfl) ?_)))))))))
        obtain ⟨a14, c14, hr14, hv14⟩ := slice_ex (f := vint) (xs := ((sl).getD jn sn00).xs) ((lo : Int)) (((lo + d + 1 : Nat) : Int)) (RowsS.get ((hJb _ _ hJ).2.2.rslr) (i := jn) (by omega)) (by omega)
        refine l_q ((q_slice (lo := (lo : Int)) (hi := ((lo + d + 1 : Nat) : Int)) Tryz.underlying31 Tryz.sizeOf3 rfl rfl rfl (by omega) (RowsS.get ((hJb _ _ hJ).2.2.rslr) (i := jn) (by omega)).2.1 rfl).cast hv14) (l_o (o_yield rfl rfl (hy (offJ se sl bf jn + offL (sl.getD jn sn00).xs lo + d) _ (subOf (sl.getD jn sn00).xs lo (d + 1)) _ _ (pl_at (by omega) hhd (by omega) (by omega)) hJ (by omega) hr14) rfl ?_))
        rintro _ w15 ⟨y15, rfl, hJy, hEy, hF15, hzy15⟩
        replace hb4 := hb4.keep (hF15 _ hty_b4)
        replace hty_b4 := TyAt.keep hty_b4 (hF15 _ hty_b4)
        replace hsz := Nat.le_trans hsz hzy15
        refine l_q (q_not rfl rfl) (l_nil (r_forget [(0, .func (.yield l) ⟨[]⟩ ⟨[]⟩), (1, .pointer _), (2, .pointer _), (5, .pointer _), (6, .int _ _), (7, .int _ _), (9, .slice _ _ _), (10, .int _ _), (11, .int _ _), (22, .int _ _), (23, .int _ _), (42, .bool _)] ⟨rfl, rfl, rfl, rfl, rfl, rfl, rfl, rfl, rfl, rfl, rfl, rfl, trivial⟩ (fun e16 => (r_cond rfl (fun hc17 => ?_) (fun hc17 => ?_)))))
        ·
         replace hc17 := nt hc17
         have hE2 := hEy hc17
         refine r_ret_ (vs := []) rfl Tryz.func88 rfl (.nil _) trivial ?_
         exact .inr hE2
        ·
         replace hc17 := nf hc17
         have hJn := hJy hc17
         refine r_skip (r_inBlock (r_region' (l_q (qmi rfl rfl) (l_q (q_add rfl rfl (by omega) rfl) (l_q (qai rfl rfl) (l_nil ?_))))))
         exact ih12 (d + 1) _ _ ⟨⟨rfl, rfl, rfl, rfl, rfl, (vint_eq (by omega)), rfl, rfl, rfl, rfl, rfl, trivial⟩, (by omega), hJn, hb4, hty_b4, hsz⟩ (by first | omega | (dsimp only; omega))
       ·
        replace hc13 := dle hc13
        refine r_exit rfl (r_inBlock (r_region' (l_q (q_add rfl rfl (by omega) rfl) (l_q (qmi rfl rfl) (l_nil ?_)))))
        exact ih10 (lo + 1) _ _ ⟨⟨rfl, rfl, rfl, rfl, rfl, rfl, rfl, rfl, (vint_eq (by omega)), trivial⟩, (by omega), (by rw [offL_succ (by omega), show (sl.getD jn sn00).xs.length - lo = d by omega, ← Nat.add_assoc]; exact hJ), hb4, hty_b4, hsz⟩ (by first | omega | (dsimp only; omega))
     ·
      replace hc11 := dlt hc11
      refine r_exit rfl (r_inBlock (r_region' (l_q (q_add rfl rfl (by omega) rfl) (l_q (qmi rfl rfl) (l_nil ?_)))))
      exact ih1 (jn + 1) _ _ ⟨⟨rfl, rfl, rfl, rfl, rfl, (vint_eq (by omega)), trivial⟩, (by omega), (by rw [offJ_yes hjs hhd, show (subs (sl.getD jn sn00).xs).length = offL (sl.getD jn sn00).xs lo by rw [show lo = (sl.getD jn sn00).xs.length by omega, offL_end]]; exact hJ), hsz⟩ (by first | omega | (dsimp only; omega))
  ·
   replace hc2 := dlt hc2
   refine r_exit rfl (r_end_ (vs := []) rfl Tryz.func88 rfl (.nil _) trivial ?_)
   exact .inl (by rw [← offJ_end, ← show jn = sl.length by omega]; exact hJ)
end Go.Proofs.YtbikicakdkbcgacGreat
