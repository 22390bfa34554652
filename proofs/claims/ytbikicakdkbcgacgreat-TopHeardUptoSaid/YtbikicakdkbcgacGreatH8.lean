/- Contracts. -/
import Derived.Test.YtbikicakdkbcgacGreatH7
import Derived.Test.YtbikicakdkbcgacGreatH2
set_option linter.unusedVariables false
set_option linter.unusedSimpArgs false
namespace Go.Proofs.YtbikicakdkbcgacGreat
open Go Go.RowKit Go.Gv Go.Fl

/-! ### Work on a land, and the earliest hours -/
def MapsAt (w : World) (B : Nat) (ms : List Nat) : Prop := ∀ m ∈ ms, B ≤ m ∧ MapAt w m [] 0
section
variable {w w' : World} {B m : Nat} {ms : List Nat}
theorem MapsAt.nil (w : World) (B : Nat) : MapsAt w B [] := fun _ h => by simp at h
theorem MapsAt.ext (h : MapsAt w B ms) (hE : Ext w w') : MapsAt w' B ms := fun m hm => ⟨(h m hm).1, (h m hm).2.ext hE⟩
theorem MapsAt.own {base e size n : Nat} {v : Value} {xs : List Value} (h : MapsAt w B ms) (ho : w.ownsRow base e size v n xs) (hG : w.grownBy w' v.ownBlock) : MapsAt w' B ms := fun m hm => ⟨(h m hm).1, (h m hm).2.own ho hG⟩
theorem MapAt.updty {b T ck : Nat} {es : List MapEntry} (h : MapAt w m es ck) (ht : TyAt w b T) (hG : w.grownBy w' (some b)) : MapAt w' m es ck := h.keep (hG.block m h.lt (fun he => by
  cases he
  obtain ⟨cs, hc⟩ := ht
  have h2 : w.heap[m]? = some (.map es.toArray ck) := h
  rw [h2] at hc
  cases hc))
theorem MapsAt.upd {b T : Nat} (h : MapsAt w B ms) (ht : TyAt w b T) (hG : w.grownBy w' (some b)) : MapsAt w' B ms := fun m hm => ⟨(h m hm).1, MapAt.updty (h m hm).2 ht hG⟩
theorem MapsAt.snoc (h : MapsAt w B ms) (hb : B ≤ m) (hM : MapAt w m [] 0) : MapsAt w B (ms ++ [m]) := fun x hx => by
  rcases List.mem_append.1 hx with h1 | h1
  · exact h x h1
  · obtain rfl : x = m := by simpa using h1
    exact ⟨hb, hM⟩
theorem MapsAt.get (h : MapsAt w B ms) {k : Nat} (hk : k < ms.length) : B ≤ ms.getD k 0 ∧ MapAt w (ms.getD k 0) [] 0 := h _ (getD_lt hk)
end

theorem el108 : Elem Tryz.prog 108 (.map none) 1 8 := elem_of (by kernel_rfl) rfl (by decide)
theorem ropen_ret (sa : Option Addr) (sc : Nat) (sl : List S4) (ra : Option Addr) (rc : Nat) (rl : List WL) (ka : Option Addr) (kc : Nat) (kl : List KV) (ua : Option Addr) (uc : Nat) (ul : List S3) (xa : Option Addr) (xc : Nat) (xs : List Int) (ya : Option Addr) (yc : Nat) (ys : List Int) (ki : Nat) (w : World) (hla : LandAt w sa sc sl ra rc rl ka kc kl ua uc ul) (hok : OkL sl rl kl ul) (hx : Row w xa xs.length xc 1 (xs.map vint)) (hxn : xs.length ≤ 6) (hy : Row w ya ys.length yc 1 (ys.map vint)) (hyn : ys.length ≤ 6) (hxs : xs.all (fun n => decide (0 ≤ n ∧ n ≤ (sl.length : Int) - 1)) = true) (hys : ys.all (fun n => decide (0 ≤ n ∧ n ≤ (ul.length : Int))) = true) (hgk : ki < kl.length) : Ret Tryz.prog 26 [.agg ⟨[.slice sa sl.length sc, .slice ra rl.length rc, .slice ka kl.length kc, .slice ua ul.length uc]⟩, .slice xa xs.length xc, .slice ya ys.length yc, vint (ki : Int)] w (fun v w' => ∃ wb ga gc ms, v = .tuple ⟨[ptr wb 0, vint 0]⟩ ∧ List.length ms = kl.length ∧ MapsAt w' w.heap.size ms ∧ RwH w' sa sc sl ra rc rl ka kc kl ua uc ul wb ga gc ms ∧ w.heap.size ≤ wb ∧ Ext w w') := by
 have hs6 := hok.s6
 have hr6 := hok.r6
 have hk4 := hok.k4
 have hu12 := hok.u12
 have hs0 := hok.s0
 have hk0 := hok.k0
 have hu0 := hok.u0
 have hB := Below.refl w.heap.size w
 have hsz : w.heap.size ≤ w.heap.size := Nat.le_refl _
 refine ret_of_runs (args := [_, _, _, _]) Tryz.func26 rfl (Nat.le_of_ble_eq_true rfl) (by kernel_rfl) (r_seq (r_region' (l_o (o_boxt rfl rfl rfl ?_))))
 intro b1 w1 hzl1 hzr1 _ hb1 hty_b1 hE1
 have hbs_b1 : w.heap.size ≤ b1 := Nat.le_trans hsz hzl1
 replace hB := below_ext hB hE1 hsz
 replace hsz := Nat.le_trans hsz hE1.size
 refine l_q (q_assign (v := .pointer none) rfl rfl) (l_q (qai rfl rfl) (l_nil (r_seq (r_seq (r_region' (l_q (q_load_agg (n := 4) Tryz.isAgg52 Tryz.sizeOf52 rfl ((hb1.cells' (cs' := [_, _, _, _]) 0 4 rfl)) rfl rfl) (l_o (o_call Tryz.call32 rfl (checkLand_ret sa sc sl ra rc rl ka kc kl ua uc ul _ (hla.below hB) hok) rfl ?_))))))))
 rintro _ w2 ⟨rfl, hE2⟩
 replace hB := below_ext hB hE2 hsz
 replace hb1 := hb1.ext hE2
 replace hty_b1 := hty_b1.ext hE2
 replace hsz := Nat.le_trans hsz hE2.size
 refine l_q (qai rfl rfl) (l_nil (r_seq (r_region' (l_q (qmi rfl rfl) (l_q (q_neq rfl rfl rfl) (l_nil ?_))))))
 have hk3 : (!decide (0 = 0)) = false := by decide
 refine r_cond_f ((congrArg Value.bool hk3 : Value.bool _ = _)) (r_skip (r_seq (r_region' (l_q (q_load_agg (n := 4) Tryz.isAgg52 Tryz.sizeOf52 rfl ((hb1.cells' (cs' := [_, _, _, _]) 0 4 rfl)) rfl rfl) (l_q (q_build (v := .agg ⟨[.slice sa sl.length sc, .slice ra rl.length rc, .slice ka kl.length kc, .slice ua ul.length uc, .slice none 0 0]⟩) (fun w => by kernel_rfl) rfl) (l_o (o_boxt rfl rfl rfl ?_)))))))
 intro b4 w4 hzl4 hzr4 _ hb4 hty_b4 hE4
 have hne_b1_b4 : b1 ≠ b4 := by have := hb1.lt; omega
 have hbs_b4 : w.heap.size ≤ b4 := Nat.le_trans hsz hzl4
 replace hB := below_ext hB hE4 hsz
 replace hb1 := hb1.ext hE4
 replace hty_b1 := hty_b1.ext hE4
 replace hsz := Nat.le_trans hsz hE4.size
 refine l_o (o_alloct Tryz.zeroValue87 rfl rfl ?_)
 intro b5 w5 hzl5 hzr5 _ hb5 hty_b5 hE5
 have hne_b1_b5 : b1 ≠ b5 := by have := hb1.lt; omega
 have hne_b4_b5 : b4 ≠ b5 := by have := hb4.lt; omega
 have hbs_b5 : w.heap.size ≤ b5 := Nat.le_trans hsz hzl5
 replace hB := below_ext hB hE5 hsz
 replace hb1 := hb1.ext hE5
 replace hty_b1 := hty_b1.ext hE5
 replace hb4 := hb4.ext hE5
 replace hty_b4 := hty_b4.ext hE5
 replace hsz := Nat.le_trans hsz hE5.size
 refine l_o (o_storet (vs := [ptr b4 0]) (cs' := [ptr b4 0]) Tryz.sizeOf87 rfl rfl rfl rfl hb5 (Nat.le_of_ble_eq_true rfl) rfl rfl ?_)
 intro w6 hz6 hb5 hT6 hG6
 replace hB := below_upd hB hG6 hsz (by omega)
 replace hsz : w.heap.size ≤ w6.heap.size := by rw [hz6]; exact hsz
 replace hb1 := hb1.upd hG6 (by omega)
 replace hty_b1 := hty_b1.upd hG6 (by omega)
 replace hb4 := hb4.upd hG6 (by omega)
 replace hty_b4 := hty_b4.upd hG6 (by omega)
 replace hty_b5 := hT6 _ hty_b5
 refine l_nil (r_forget [(1, .slice _ _ _), (2, .slice _ _ _), (3, .int _ _), (4, .pointer _), (11, .pointer _)] ⟨rfl, rfl, rfl, rfl, rfl, trivial⟩ (fun e7 => (r_seq (r_region' (l_q (q_load Tryz.isAgg87 rfl ((hb5.has (o := 0) rfl)) rfl) (l_q (q_makeFunc (v := .func _ ⟨[_]⟩ ⟨[]⟩) rfl rfl) (l_q (q_assign (v := .func _ _ _) rfl rfl) (l_nil (r_seq (r_region' (l_q (q_makeFunc (v := .func _ ⟨[]⟩ ⟨[_]⟩) rfl rfl) (l_q (q_assign (v := .func _ _ _) rfl rfl) (l_nil (r_seq (r_seq (r_region' (l_q (qms rfl rfl) (l_q (q_move (v := .func _ _ _) rfl rfl) ?_))))))))))))))))))
 refine l_o (o_call Tryz.call38 rfl (all_rint_of 0 (f := vint) (xs := xs) (fst := [ptr b4 0]) (cap := []) (q := fun n => decide (0 ≤ n ∧ n ≤ (sl.length : Int) - 1)) Tryz.call35 (hx.below hB) (fun w' hw x hx => (rstation_ret sa sc sl ra rc rl ka kc kl ua uc ul b4 none 0 [] x w' ((⟨hb4, hla.below hB, Row.nil _ _ _ _⟩ : RwH _ sa sc sl ra rc rl ka kc kl ua uc ul b4 none 0 []).ext hw) hs6).mono (fun v w2 h => ⟨h.1, h.2 ▸ Ext.refl _⟩)) (by omega)) rfl ?_)
 rintro _ w8 ⟨rfl, hE8⟩
 replace hB := below_ext hB hE8 hsz
 replace hb1 := hb1.ext hE8
 replace hty_b1 := hty_b1.ext hE8
 replace hb4 := hb4.ext hE8
 replace hty_b4 := hty_b4.ext hE8
 replace hb5 := hb5.ext hE8
 replace hty_b5 := hty_b5.ext hE8
 replace hsz := Nat.le_trans hsz hE8.size
 refine l_q (q_not rfl rfl) (l_q (qmb rfl rfl) ?_)
 have hk9 : (!(xs.all (fun n => decide (0 ≤ n ∧ n ≤ (sl.length : Int) - 1)))) = false := by rw [hxs]; rfl
 refine l_part 29 rfl (fun hx => absurd (hk9.symm.trans hx) (by decide)) (fun _ => (l_q (qms rfl rfl) (l_q (q_move (v := .func _ _ _) rfl rfl) (l_o (o_call Tryz.call38 rfl (all_rint_of 0 (f := vint) (xs := ys) (fst := []) (cap := [ptr b5 0]) (q := fun n => decide (0 ≤ n ∧ n ≤ (ul.length : Int))) Tryz.call36 (hy.below hB) (fun w' hw x hx => (ropen1_ret sa sc sl ra rc rl ka kc kl ua uc ul b4 none 0 [] x b5 w' ((⟨hb4, hla.below hB, Row.nil _ _ _ _⟩ : RwH _ sa sc sl ra rc rl ka kc kl ua uc ul b4 none 0 []).ext hw) (hb5.ext hw)).mono (fun v w2 h => ⟨h.1, h.2 ▸ Ext.refl _⟩)) (by omega)) rfl ?_)))))
 rintro _ w10 ⟨rfl, hE10⟩
 replace hB := below_ext hB hE10 hsz
 replace hb1 := hb1.ext hE10
 replace hty_b1 := hty_b1.ext hE10
 replace hb4 := hb4.ext hE10
 replace hty_b4 := hty_b4.ext hE10
 replace hb5 := hb5.ext hE10
 replace hty_b5 := hty_b5.ext hE10
 replace hsz := Nat.le_trans hsz hE10.size
 refine l_q (q_not rfl rfl) (l_q (q_pick_f (v := .bool _) rfl rfl rfl) (l_q (qmb rfl rfl) ?_))
 have hk11 : (!(ys.all (fun n => decide (0 ≤ n ∧ n ≤ (ul.length : Int))))) = false := by rw [hys]; rfl
 refine l_part 35 rfl (fun hx => absurd (hk11.symm.trans hx) (by decide)) (fun _ => (l_q (qmi rfl rfl) (l_q (q_fieldAddr (o' := 2) rfl fld52_2 rfl) (l_q (q_load Tryz.isAgg49 rfl ((hb1.has (o := 2) rfl)) rfl) (l_q (q_len rfl Tryz.underlying49 rfl rfl) (l_q (q_sub rfl rfl (by omega) rfl) (l_o (o_call Tryz.call37 rfl (rlwithin_ret _ _ _ _) rfl ?_))))))))
 rintro _ w12 ⟨rfl, rfl⟩
 refine l_q (q_not rfl rfl) (l_q (q_pick_f (v := .bool _) rfl rfl rfl) (l_nil (r_forget [(4, .pointer _), (11, .pointer _), (43, .bool _)] ⟨rfl, rfl, rfl, trivial⟩ (fun e13 => ?_))))
 have hk14 : (!(decide (0 ≤ (ki : Int)) && decide ((ki : Int) ≤ ((kl.length : Int) - 1)))) = false := by rw [Bool.not_eq_false', Bool.and_eq_true, decide_eq_true_eq, decide_eq_true_eq]; omega
 refine r_cond_f ((congrArg Value.bool hk14 : Value.bool _ = _)) (r_skip (r_seq (r_seq (r_region' (l_q (q_fieldAddr (o' := 2) rfl fld52_2 rfl) (l_q (q_load Tryz.isAgg49 rfl ((hb1.has (o := 2) rfl)) rfl) (l_q (q_len rfl Tryz.underlying49 rfl rfl) (l_q (qmi rfl rfl) (l_nil (r_block ?_))))))))))
 refine r_rounds (α := Nat × (Option Addr) × Nat × (List Nat)) (fun ⟨k, ga, gc, X⟩ e wl => Knows e [(11, ptr b5 0), (46, vint (kl.length : Int)), (47, vint (k : Int))] ∧ (k ≤ kl.length) ∧ (X.length = k) ∧ (Blk wl b4 [.slice sa sl.length sc, .slice ra rl.length rc, .slice ka kl.length kc, .slice ua ul.length uc, .slice ga X.length gc]) ∧ (wl.ownsRow w.heap.size 108 1 (.slice ga X.length gc) X.length (X.map mapV)) ∧ (MapsAt wl w.heap.size X) ∧ (Blk wl b1 [.slice sa sl.length sc, .slice ra rl.length rc, .slice ka kl.length kc, .slice ua ul.length uc]) ∧ (TyAt wl b1 52) ∧ (TyAt wl b4 106) ∧ (Blk wl b5 [ptr b4 0]) ∧ (TyAt wl b5 87) ∧ (w.heap.size ≤ wl.heap.size) ∧ (Below w.heap.size w wl)) (fun ⟨k, ga, gc, X⟩ => kl.length - k) (0, none, 0, []) ?_ ?_
 ·
  exact ⟨⟨rfl, rfl, rfl, trivial⟩, (Nat.zero_le _), rfl, hb4, (World.ownsRow_nil _ _ _ _), (MapsAt.nil _ _), hb1, hty_b1, hty_b4, hb5, hty_b5, hsz, hB⟩
 ·
  rintro ⟨k, ga, gc, X⟩ el15 wl15 ⟨hkn, hk2, hXl, hb4, hog, hMs, hb1, hty_b1, hty_b4, hb5, hty_b5, hsz, hB⟩ ih15
  obtain ⟨e15, rfl⟩ := knows_env hkn
  refine r_seq (r_region' (l_q (q_lss rfl rfl rfl) (l_nil (r_seq (r_cond rfl (fun hc16 => ?_) (fun hc16 => ?_))))))
  ·
   replace hc16 := dt hc16
   skip
   refine r_skip (r_seq (r_block (r_draw (Cls := fun w1 w2 => (Blk w1 b5 [ptr b4 0] → Blk w2 b5 [ptr b4 0]) ∧ (Blk w1 b4 [.slice sa sl.length sc, .slice ra rl.length rc, .slice ka kl.length kc, .slice ua ul.length uc, .slice ga X.length gc] → Blk w2 b4 [.slice sa sl.length sc, .slice ra rl.length rc, .slice ka kl.length kc, .slice ua ul.length uc, .slice ga X.length gc])) (fun w => ⟨(fun h => h), (fun h => h)⟩) (fun a b c h1 h2 => ⟨(fun h => h2.1 (h1.1 h)), (fun h => h2.2 (h1.2 h))⟩) [0, 1, 2, 3, 4, 5, 6, 7, 8, 9, 10] [5, 6, 7, 10, 1010] 24 (by kernel_rfl) (by kernel_rfl) ?_)))
   intro w17 _ hE17
   replace hB := below_ext hB hE17 hsz
   replace hb1 := hb1.ext hE17
   replace hty_b1 := hty_b1.ext hE17
   replace hb4 := hb4.ext hE17
   replace hty_b4 := hty_b4.ext hE17
   replace hb5 := hb5.ext hE17
   replace hty_b5 := hty_b5.ext hE17
   replace hog := own_ext hog hE17
   replace hMs := hMs.ext hE17
   replace hsz := Nat.le_trans hsz hE17.size
   refine m_q rfl rfl (fun w' hC' => q_load Tryz.isAgg87 rfl (((hC'.1 hb5).has (o := 0) rfl)) rfl) (m_q rfl rfl (fun w' hC' => q_load Tryz.isAgg87 rfl (((hC'.1 hb5).has (o := 0) rfl)) rfl) (m_q rfl rfl (fun w' hC' => q_nilCheck rfl rfl) (m_q rfl rfl (fun w' hC' => q_fieldAddr (o' := 4) rfl fld106_1 rfl) (m_q rfl rfl (fun w' hC' => q_load Tryz.isAgg104 rfl (((hC'.2 hb4).has (o := 4) rfl)) rfl) (m_o rfl rfl (o_makeMap rfl ?_))))))
   intro m w18 hml hmr hM hE18
   refine ⟨⟨(fun h => h.ext hE18), (fun h => h.ext hE18)⟩, ?_⟩
   have hbs_m : w.heap.size ≤ m := Nat.le_trans hsz hml
   replace hB := below_ext hB hE18 hsz
   replace hb1 := hb1.ext hE18
   replace hty_b1 := hty_b1.ext hE18
   replace hb4 := hb4.ext hE18
   replace hty_b4 := hty_b4.ext hE18
   replace hb5 := hb5.ext hE18
   replace hty_b5 := hty_b5.ext hE18
   replace hog := own_ext hog hE18
   replace hMs := hMs.ext hE18
   replace hsz := Nat.le_trans hsz hE18.size
   refine m_o rfl rfl (o_buildSlice (el := 108) (cs := [.map (some m)]) Tryz.underlying104 el108 (by decide) (by kernel_rfl) rfl (by decide) rfl ?_)
   intro b19 w19 hzl19 hzr19 _ hb19 hE19 ho19
   refine ⟨⟨(fun h => h.ext hE19), (fun h => h.ext hE19)⟩, ?_⟩
   have hne_b1_b19 : b1 ≠ b19 := by have := hb1.lt; omega
   have hne_b4_b19 : b4 ≠ b19 := by have := hb4.lt; omega
   have hne_b5_b19 : b5 ≠ b19 := by have := hb5.lt; omega
   have hbs_b19 : w.heap.size ≤ b19 := Nat.le_trans hsz hzl19
   replace hB := below_ext hB hE19 hsz
   replace hb1 := hb1.ext hE19
   replace hty_b1 := hty_b1.ext hE19
   replace hb4 := hb4.ext hE19
   replace hty_b4 := hty_b4.ext hE19
   replace hb5 := hb5.ext hE19
   replace hty_b5 := hty_b5.ext hE19
   replace hog := own_ext hog hE19
   replace hMs := hMs.ext hE19
   replace hM := hM.ext hE19
   replace hsz := Nat.le_trans hsz hE19.size
   refine m_o rfl rfl (o_append_map (f := mapV) (X) (([m] : List Nat)) Tryz.underlying104 el108 rfl rfl hog rfl (Row.of_owns ho19) (fun _ => rfl) (by (try simp only [List.length_append, List.length_cons, List.length_nil]); omega) (by omega) rfl ?_)
   intro a20 c20 w20 hz20 ho20 hG20
   refine ⟨⟨(fun h => h.step hG20 (own_ty_ne hog hty_b5 (by decide))), (fun h => h.step hG20 (own_ty_ne hog hty_b4 (by decide)))⟩, ?_⟩
   replace hB := below_own hB hG20 hog (by omega) hsz
   replace hsz := Nat.le_trans hsz hG20.size
   replace hb1 := hb1.step hG20 (own_ty_ne hog hty_b1 (by decide))
   replace hb4 := hb4.step hG20 (own_ty_ne hog hty_b4 (by decide))
   replace hb5 := hb5.step hG20 (own_ty_ne hog hty_b5 (by decide))
   replace hMs := hMs.own hog hG20
   replace hM := hM.own hog hG20
   replace hty_b1 := TyAt.own hty_b1 hog hG20 (by decide)
   replace hty_b4 := TyAt.own hty_b4 hog hG20 (by decide)
   replace hty_b5 := TyAt.own hty_b5 hog hG20 (by decide)
   replace hMs := hMs.snoc hbs_m hM
   refine m_q rfl rfl (fun w' hC' => q_nilCheck rfl rfl) (m_q rfl rfl (fun w' hC' => q_fieldAddr (o' := 4) rfl fld106_1 rfl) (m_last rfl rfl rfl (o_storet (vs := [.slice a20 ((X ++ ([m] : List Nat)).length) c20]) (cs' := [.slice sa sl.length sc, .slice ra rl.length rc, .slice ka kl.length kc, .slice ua ul.length uc, .slice a20 ((X ++ ([m] : List Nat)).length) c20]) Tryz.sizeOf104 rfl rfl rfl rfl hb4 (Nat.le_of_ble_eq_true rfl) rfl rfl ?_)))
   intro w21 hz21 hb4 hT21 hG21
   replace hB := below_upd hB hG21 hsz (by omega)
   replace hsz : w.heap.size ≤ w21.heap.size := by rw [hz21]; exact hsz
   replace hb1 := hb1.upd hG21 (by omega)
   replace hty_b1 := hty_b1.upd hG21 (by omega)
   replace hb5 := hb5.upd hG21 (by omega)
   replace hty_b5 := hty_b5.upd hG21 (by omega)
   replace hMs := hMs.upd hty_b4 hG21
   replace ho20 := own_ty_upd ho20 hty_b4 hG21 (by decide)
   replace hty_b4 := hT21 _ hty_b4
   refine m_nil (r_forget [(11, .pointer _), (46, .int _ _), (47, .int _ _)] ⟨rfl, rfl, rfl, trivial⟩ (fun e22 => (r_inBlock (r_region' (l_q (q_add rfl rfl (by omega) rfl) (l_q (qmi rfl rfl) (l_nil ?_)))))))
   exact ih15 (k + 1, a20, c20, (X ++ ([m] : List Nat))) _ _ ⟨⟨rfl, rfl, (vint_eq (by omega)), trivial⟩, (by omega), (by rw [List.length_append, hXl]; rfl), hb4, ho20, hMs, hb1, hty_b1, hty_b4, hb5, hty_b5, hsz, hB⟩ (by first | omega | (dsimp only; omega))
  ·
   replace hc16 := dlt hc16
   refine r_exit rfl (r_seq (r_region' (l_q (q_load Tryz.isAgg87 rfl ((hb5.has (o := 0) rfl)) rfl) (l_q (q_assign (v := .pointer _) rfl rfl) (l_q (qai rfl rfl) (l_nil (r_ret_ (vs := [.pointer _, .int _ _]) rfl Tryz.func26 rfl (.nil _) ⟨rfl, rfl, trivial⟩ ?_)))))))
   exact ⟨b4, ga, gc, X, rfl, by omega, hMs, ⟨hb4, hla.below hB, Row.of_owns hog⟩, hbs_b4, Ext.of_below hB⟩
end Go.Proofs.YtbikicakdkbcgacGreat
