/- Contracts. -/
import Derived.Test.YtekkdhpgcilpdaaGreatM10
set_option linter.unusedVariables false
set_option linter.unusedSimpArgs false
namespace Go.Proofs.YtekkdhpgcilpdaaGreat
open Go Go.RowKit Go.Gv Go.Fl
theorem below_own_of {N base e size n : Nat} {w w' : World} {v : Value} {xs : List Value} (hG : w.grownBy w' v.ownBlock) (h : w.ownsRow base e size v n xs) (hb : N ≤ base) (hN : N ≤ w.heap.size) : Below N w w' :=
  ⟨hG.os, hG.tape, hG.output, hG.size, fun k hk => hG.block k (by omega) (fun he => by have := own_block_ge h he.symm; omega)⟩
theorem own_val {w : World} {R : List SV} {L : List (List Int)} {n : Nat} (hR : RowsI w R) (hm : R.map (·.xs) = L) (hn : n < L.length) : ∃ a c, (rowF R (n : Int)).getD (.slice none 0 0) = .slice a (L.getD n []).length c ∧ Row w a (L.getD n []).length c 1 ((L.getD n []).map vint) := by
  have hl : R.length = L.length := by rw [← hm, List.length_map]
  have he : (R.getD n sv0).xs = L.getD n [] := by
    rw [← hm, List.getD_eq_getElem?_getD, List.getD_eq_getElem?_getD, List.getElem?_map]
    cases R[n]? <;> rfl
  unfold rowF
  rw [Int.toNat_natCast, ← he]
  by_cases hx : (R.getD n sv0).xs = []
  · rw [if_neg (fun h => h.2 hx), hx]
    exact ⟨none, 0, rfl, Row.nil _ _ _ _⟩
  · rw [if_pos ⟨Int.natCast_nonneg _, hx⟩]
    exact ⟨_, _, rfl, hR _ (getD_lt (by omega))⟩
def ownM (l : Lg) (n : Int) : List Int × Int := if ¬ askedM l n = 0 then ([], askedM l n) else (ownL l (l.R.getD n.toNat rcd0), 0)
theorem ownM_f {l : Lg} {n : Int} (h : ¬ askedM l n = 0) : ownM l n = ([], askedM l n) := by unfold ownM; rw [if_pos h]
theorem ownM_0 {l : Lg} {n : Int} (h : askedM l n = 0) : ownM l n = (ownL l (l.R.getD n.toNat rcd0), 0) := by unfold ownM; rw [if_neg (fun h3 => h3 h)]
theorem map_getD0 {l : List RC} {f : RC → List Int} {n : Nat} (h : n < l.length) : (l.map f).getD n [] = f (l.getD n rcd0) := by
  rw [List.getD_eq_getElem?_getD, List.getElem?_map, List.getD_eq_getElem?_getD, List.getElem?_eq_getElem h]; rfl
/-! ### A frame that leaves one block out -/
theorem _root_.Go.Gv.Blk.gk {w w' : World} {b m : Nat} {cs : List Value} (h : Blk w b cs) (hG : w.grownBy w' (some m)) (hn : b ≠ m) : Blk w' b cs := h.upd hG hn
theorem _root_.Go.Gv.Row.gk {w w' : World} {a : Option Addr} {n c m : Nat} {xs : List Int} (h : Row w a n c 1 (xs.map vint)) (hG : w.grownBy w' (some m)) (hn : xs ≠ [] → ∀ x, a = some x → x.block ≠ m) : Row w' a n c 1 (xs.map vint) := by
  by_cases hne : xs = []
  · subst hne
    exact ⟨h.1, h.2.1, .inl rfl⟩
  · exact h.step hG (fun x hx he => hn hne x hx (by simpa using he))
theorem WkMaps.gk {w w' : World} {m1 m2 m : Nat} {R : List SV} {C : List (List Int)} (h : WkMaps w m1 m2 R C) (hG : w.grownBy w' (some m)) (hn : m1 ≠ m ∧ m2 ≠ m) : WkMaps w' m1 m2 R C := h.upd hG (.inr hn)
theorem grown_own {a b c : World} {m base e size n : Nat} {v : Value} {xs : List Value} (h : a.grownBy b (some m)) (ho : b.ownsRow base e size v n xs) (hG : b.grownBy c v.ownBlock) (hb : a.heap.size ≤ base) : a.grownBy c (some m) :=
  ⟨hG.os.trans h.os, hG.tape.trans h.tape, hG.output.trans h.output, Nat.le_trans h.size hG.size, fun k hk hm => (hG.block k (Nat.lt_of_lt_of_le hk h.size) (fun he => by have := own_block_ge ho he.symm; omega)).trans (h.block k hk hm)⟩
theorem own_blk_ne {w : World} {base e n c m : Nat} {a : Option Addr} {xs : List Int} (h : w.ownsRow base e 1 (.slice a n c) n (xs.map vint)) (hb : m < base) : xs ≠ [] → ∀ x, a = some x → x.block ≠ m := fun _ x hx he => by
  subst hx
  have := own_block_ge h (g := x.block) rfl
  omega
def LeaveP (Q : List Int → Bool) (n : Nat) (b3 : Nat) (many fr : Nat) (xs : List Int) (w : World) (v : Value) (w' : World) : Prop :=
  ∃ (y : Bool) (a3 : Option Addr) (n3 c3 : Nat), v = .bool y ∧ Blk w' b3 [.slice a3 n3 c3] ∧ w.grownBy w' (some b3) ∧ (y = true → ∃ l2 : List Int, leaveF Q n many fr xs = some l2 ∧ n3 = l2.length ∧ Row w' a3 n3 c3 1 (l2.map vint)) ∧ (y = false → leaveF Q n many fr xs = none)
theorem leavQ_eq {can : Nat → Int → Bool} {m n : Nat} {xs : List Int} {b : Bool} (h : decide (fewF can m (outL xs) n [] < 1024) = b) : leavQ can m n xs = b := h

def leavW (l : Lg) : List Int × Int := if ¬ faultM l = 0 then ([], faultM l) else (leaveM l, 0)
theorem leavW_f {l : Lg} (h : ¬ faultM l = 0) : leavW l = ([], faultM l) := by unfold leavW; rw [if_pos h]
section
variable {co : List Sg} {er : Int} {se : List Int} {sl : List SN} {rl : List RC} {l2 : List Int}
theorem leavW_ok (h : faultM (lg co er se sl rl) = 0) (hA : leaveA (leavQ (canB (lg co er se sl rl)) sl.length rl.length) rl.length = some l2) : leavW (lg co er se sl rl) = (l2, 0) := by
  unfold leavW leaveM; rw [if_neg (fun h3 => h3 h), lgJ, lgR, hA]; rfl
theorem leavA_dead {can : Nat → Int → Bool} {m n : Nat} (h : leaveA (leavQ can m n) n = none) : False := by
  obtain ⟨l, h1, _⟩ := leave_spec (Q := leavQ can m n) (n := n) leavQ_all
  rw [h] at h1; cases h1
end


set_option maxHeartbeats 1000000 in
theorem prove6_ret (ka : Option Addr) (kc : Nat) (co : List Sg) (er : Int) (sa : Option Addr) (sc : Nat) (se : List Int) (ja : Option Addr) (jc : Nat) (sl : List SN) (ra : Option Addr) (rc : Nat) (rl : List RC) (xa : Option Addr) (xc : Nat) (xs : List Int) (w : World) (hlg : LgAt w ka kc co sa sc se ja jc sl ra rc rl) (hbg : LgBig co er se sl rl) (hx : Row w xa xs.length xc 1 (xs.map vint)) (hxn : xs.length ≤ 2097152) : Ret Tryz.prog 45 [.agg ⟨[.slice ka co.length kc, vint er, .slice sa se.length sc, .slice ja sl.length jc, .slice ra rl.length rc]⟩, .slice xa xs.length xc] w (fun v w' => v = .bool (provM (lg co er se sl rl) xs) ∧ Ext w w') := by
 obtain ⟨⟨hcn, hcl⟩, hen, hsn, ⟨hjn, hjl⟩, hrn, hrl⟩ := id hbg
 have hB := Below.refl w.heap.size w
 have hsz : w.heap.size ≤ w.heap.size := Nat.le_refl _
 refine ret_of_runs (args := [_, _]) Tryz.func45 rfl (Nat.le_of_ble_eq_true rfl) (by kernel_rfl) (r_seq (r_region' (l_o (o_box rfl rfl rfl ?_))))
 intro b1 w1 hzl1 hzr1 _ hb1 hE1
 have hbs_b1 : w.heap.size ≤ b1 := Nat.le_trans hsz hzl1
 replace hB := below_ext hB hE1 hsz
 replace hsz := Nat.le_trans hsz hE1.size
 refine l_q (qab rfl rfl) (l_nil (r_seq (r_seq (r_region' (l_q (q_load_agg (n := 5) Tryz.isAgg38 Tryz.sizeOf38 rfl ((hb1.cells' (cs' := [_, _, _, _, _]) 0 5 rfl)) rfl rfl) (l_o (o_call Tryz.call19 rfl (checkLog_ret ka kc co er sa sc se ja jc sl ra rc rl _ (hlg.below hB) hbg) rfl ?_)))))))
 rintro _ w2 ⟨rfl, hE2⟩
 replace hB := below_ext hB hE2 hsz
 replace hb1 := hb1.ext hE2
 replace hsz := Nat.le_trans hsz hE2.size
 refine l_q (q_neq rfl rfl rfl) (l_q (qmb rfl rfl) (l_part 14 rfl (fun hc3 => ?_) (fun hc3 => ?_)))
 ·
  replace hc3 := df (nt hc3)
  have g14 := hc3
  refine l_q (q_skip rfl) (l_q (q_skip rfl) (l_q (q_skip rfl) (l_q (q_skip rfl) (l_q (q_skip rfl) (l_q (q_skip rfl) (l_q (q_pick_t (v := .bool _) rfl rfl rfl) (l_nil (r_forget [(1, .slice _ _ _), (2, .pointer _), (21, .bool _)] ⟨rfl, rfl, rfl, trivial⟩ (fun e4 => (r_cond_t rfl (r_seq (r_region' (l_q (qab rfl rfl) (l_nil (r_ret_ (vs := [.bool _]) rfl Tryz.func45 rfl (.nil _) ⟨rfl, trivial⟩ ?_)))))))))))))))
  exact ⟨vbool_eq (prov_f (by simpa using g14)).symm, Ext.of_below hB⟩
 ·
  replace hc3 := dt (nf hc3)
  have hok : faultM (lg co er se sl rl) = 0 := by have := hc3; simpa using this
  obtain ⟨⟨hs1, hs4⟩, hj8, hr6, hf0, ⟨he0, he3⟩, hsr, hJn, hRn⟩ := lg_ok hok
  have hj8 : sl.length ≤ 8 := by have h : (lg co er se sl rl).J.length ≤ 8 := hj8; rwa [lgJ] at h
  have hr6 : rl.length ≤ 6 := by have h : (lg co er se sl rl).R.length ≤ 6 := (by omega); exact h
  refine l_q (qms rfl rfl) (l_q (q_len rfl Tryz.underlying25 rfl rfl) (l_q (q_fieldAddr (o' := 4) rfl fld38_4 rfl) (l_q (q_load Tryz.isAgg36 rfl ((hb1.has (o := 4) rfl)) rfl) (l_q (q_len rfl Tryz.underlying36 rfl rfl) (l_q (q_neq rfl rfl rfl) (l_q (q_pick_f (v := .bool _) rfl rfl rfl) (l_nil (r_forget [(1, .slice _ _ _), (2, .pointer _), (21, .bool _)] ⟨rfl, rfl, rfl, trivial⟩ (fun e5 => (r_cond rfl (fun hc6 => ?_) (fun hc6 => ?_)))))))))))
  ·
   replace hc6 := df (nt hc6)
   have g21 := hc6
   refine r_seq (r_region' (l_q (qab rfl rfl) (l_nil (r_ret_ (vs := [.bool _]) rfl Tryz.func45 rfl (.nil _) ⟨rfl, trivial⟩ ?_))))
   exact ⟨vbool_eq (prov_len (by rw [lgR]; omega)).symm, Ext.of_below hB⟩
  ·
   replace hc6 := dt (nf hc6)
   have hln : xs.length = rl.length := by omega
   refine r_skip (r_seq (r_region' (l_q (q_load_agg (n := 5) Tryz.isAgg38 Tryz.sizeOf38 rfl ((hb1.cells' (cs' := [_, _, _, _, _]) 0 5 rfl)) rfl rfl) (l_o (o_call Tryz.call65 rfl (mwork_ret ka kc co er sa sc se ja jc sl ra rc rl _ (hlg.below hB) hbg hok) rfl ?_)))))
   rintro _ w7 ⟨wb, m1, m2, R, rfl, hwb, _, hWk, hRr, hRm, hE7⟩
   have hltW_b1 := hb1.lt
   replace hB := below_ext hB hE7 hsz
   replace hb1 := hb1.ext hE7
   replace hsz := Nat.le_trans hsz hE7.size
   have hwbl := hwb.lt
   have hmwl := hWk.lt
   have hm12 := hWk.1
   refine l_q (q_assign (v := .pointer _) rfl rfl) (l_nil (r_seq (r_region' (l_o (o_alloc Tryz.zeroValue106 rfl rfl ?_)))))
   intro b8 w8 hzl8 hzr8 _ hb8 hE8
   have hne_b1_b8 : b1 ≠ b8 := by have := hb1.lt; omega
   have hne_wb_b8 : wb ≠ b8 := by have := hwb.lt; omega
   have hmw_b8 : m2 < b8 := Nat.lt_of_lt_of_le hWk.lt hzl8
   have hbs_b8 : w.heap.size ≤ b8 := Nat.le_trans hsz hzl8
   replace hB := below_ext hB hE8 hsz
   replace hb1 := hb1.ext hE8
   replace hwb := hwb.ext hE8
   replace hWk := hWk.ext hE8
   replace hsz := Nat.le_trans hsz hE8.size
   refine l_nil (r_seq (r_seq (r_region' (l_q (qms rfl rfl) (l_q (q_len rfl Tryz.underlying25 rfl rfl) (l_q (qmi rfl rfl) (l_nil (r_block ?_))))))))
   refine r_rounds (α := Nat × (List Bool)) (fun ⟨n, u⟩ e wl => Knows e [(2, ptr b1 0), (5, ptr wb 0), (6, ptr b8 0), (24, .slice xa xs.length xc), (25, vint (xs.length : Int)), (26, vint (n : Int))] ∧ (n ≤ xs.length) ∧ (UsedBy (xs.take n) u) ∧ (∀ r, r < n → okAt (canB (lg co er se sl rl)) sl.length noB xs r) ∧ (Blk wl b8 ((u).map Value.bool)) ∧ (Blk wl b1 [.slice ka co.length kc, vint er, .slice sa se.length sc, .slice ja sl.length jc, .slice ra rl.length rc]) ∧ (Blk wl wb [.slice ka co.length kc, vint er, .slice sa se.length sc, .slice ja sl.length jc, .slice ra rl.length rc, .map (some m1), .map (some m2)]) ∧ (WkMaps wl m1 m2 R (rl.map (candL (lg co er se sl rl)))) ∧ (w.heap.size ≤ wl.heap.size) ∧ (Below w.heap.size w wl)) (fun ⟨n, u⟩ => xs.length - n) ⟨0, List.replicate 8 false⟩ ?_ ?_
   ·
    exact ⟨⟨rfl, rfl, rfl, rfl, rfl, rfl, trivial⟩, (by omega), UsedBy.nil, (fun i hi => absurd hi (Nat.not_lt_zero _)), hb8, hb1, hwb, hWk, hsz, hB⟩
   ·
    rintro ⟨n, u⟩ el9 wl9 ⟨hkn, hnr, hub, hall, hb8, hb1, hwb, hWk, hsz, hB⟩ ih9
    obtain ⟨e9, rfl⟩ := knows_env hkn
    refine r_seq (r_region' (l_q (q_lss rfl rfl rfl) (l_nil (r_seq (r_cond rfl (fun hc10 => ?_) (fun hc10 => ?_))))))
    ·
     replace hc10 := dt hc10
     have hnl : n < xs.length := by omega
     refine r_skip (r_seq (r_block (r_seq (r_region' (l_q (qmi rfl rfl) ?_)))))
     obtain ⟨b11, o11, ha11, hh11⟩ := (hx.below hB).at1 n ((xs).getD n 0) (getD_some (by omega))
     refine l_q (q_indexAddr1 Tryz.underlying25 Tryz.sizeOf3 rfl ha11 rfl (by omega) rfl) (l_q (q_load Tryz.isAgg3 rfl (hh11) rfl) (l_q (qai rfl rfl) (l_q (qai rfl rfl) (l_nil (r_seq (r_region' (l_q (q_load_agg (n := 8) Tryz.isAgg106 Tryz.sizeOf106 rfl ((hb8.cells0)) (by rw [List.length_map]; exact hub.1) rfl) (l_o (o_alloc Tryz.zeroValue106 rfl rfl ?_)))))))))
     intro b12 w12 hzl12 hzr12 _ hb12 hE12
     have hne_b1_b12 : b1 ≠ b12 := by have := hb1.lt; omega
     have hne_wb_b12 : wb ≠ b12 := by have := hwb.lt; omega
     have hne_b8_b12 : b8 ≠ b12 := by have := hb8.lt; omega
     have hmw_b12 : m2 < b12 := Nat.lt_of_lt_of_le hWk.lt hzl12
     have hbs_b12 : w.heap.size ≤ b12 := Nat.le_trans hsz hzl12
     replace hB := below_ext hB hE12 hsz
     replace hb1 := hb1.ext hE12
     replace hwb := hwb.ext hE12
     replace hWk := hWk.ext hE12
     replace hb8 := hb8.ext hE12
     replace hsz := Nat.le_trans hsz hE12.size
     refine l_o (o_store_all (cs' := (u).map Value.bool) Tryz.sizeOf106 rfl rfl hb12 (rfl) (by rw [List.length_map]; exact hub.1) (all_one_map _ _ (fun _ => rfl)) rfl ?_)
     intro w13 hz13 hb12 hG13
     replace hB := below_upd hB hG13 hsz (by omega)
     replace hsz : w.heap.size ≤ w13.heap.size := by rw [hz13]; exact hsz
     replace hb1 := hb1.upd hG13 (by omega)
     replace hwb := hwb.upd hG13 (by omega)
     replace hWk := hWk.upd hG13 (by omega)
     replace hb8 := hb8.upd hG13 (by omega)
     refine l_q (qab rfl rfl) (l_nil (r_seq (r_seq (r_region' (l_q (qmi rfl rfl) (l_q (q_fieldAddr (o' := 3) rfl fld38_3 rfl) (l_q (q_load Tryz.isAgg35 rfl ((hb1.has (o := 3) rfl)) rfl) (l_q (q_len rfl Tryz.underlying35 rfl rfl) (l_q (q_sub rfl rfl (by omega) rfl) (l_o (o_call Tryz.call57 rfl (mwithin_ret _ _ _ _) rfl ?_)))))))))))
     rintro _ w14 ⟨rfl, rfl⟩
     refine l_nil (r_forget [(2, .pointer _), (5, .pointer _), (6, .pointer _), (7, .int _ _), (8, .int _ _), (9, .pointer _), (10, .bool _), (24, .slice _ _ _), (25, .int _ _), (26, .int _ _), (37, .bool _)] ⟨rfl, rfl, rfl, rfl, rfl, rfl, rfl, rfl, rfl, rfl, rfl, trivial⟩ (fun e15 => (r_cond rfl (fun hc16 => ?_) (fun hc16 => ?_))))
     ·
      replace hc16 := b2t hc16
      have hrng : -1 ≤ (xs.getD n 0) ∧ (xs.getD n 0) ≤ (sl.length : Int) - 1 := by have := hc16; simpa using this
      have hst := free_step (l := (lg co er se sl rl)) (p := xs.take n) (u := u) (b := (xs.getD n 0)) (by rw [List.length_take, lgR]; omega) ⟨by omega, by rw [lgJ]; omega⟩ (by rw [lgJ]; omega) hub
      rw [show ((xs.take n).length : Int) = (n : Int) by rw [List.length_take]; omega] at hst
      refine r_region' (l_q (q_move (v := .pointer _) rfl rfl) (l_q (qmi rfl rfl) (l_q (qmi rfl rfl) (l_q (q_load_agg (n := 8) Tryz.isAgg106 Tryz.sizeOf106 rfl ((hb8.cells0)) (by rw [List.length_map]; exact hub.1) rfl) (l_o (o_call Tryz.call78 rfl (free6_ret ka kc co er sa sc se ja jc sl ra rc rl wb m1 m2 R (rl.map (candL (lg co er se sl rl))) (n : Int) ((xs).getD n 0) u _ hwb hWk hub.1 (by omega)) rfl ?_))))))
      rintro _ w17 ⟨rfl, hE17⟩
      replace hB := below_ext hB hE17 hsz
      replace hb1 := hb1.ext hE17
      replace hwb := hwb.ext hE17
      replace hWk := hWk.ext hE17
      replace hb8 := hb8.ext hE17
      replace hb12 := hb12.ext hE17
      replace hsz := Nat.le_trans hsz hE17.size
      refine l_q (q_move (v := .tuple _) rfl rfl) (l_q (q_extract (vs := [_, _]) (v := .agg _) rfl rfl rfl) (l_q (q_extract (vs := [_, _]) (v := .bool _) rfl rfl rfl) (l_o (o_store_all (cs' := (freeU (rl.map (candL (lg co er se sl rl))) (n : Int) ((xs).getD n 0) u).map Value.bool) Tryz.sizeOf106 rfl rfl hb12 (by rw [List.length_map]; exact hub.1) (by rw [List.length_map]; exact freeU_len hub.1) (all_one_map _ _ (fun _ => rfl)) rfl ?_))))
      intro w18 hz18 hb12 hG18
      replace hB := below_upd hB hG18 hsz (by omega)
      replace hsz : w.heap.size ≤ w18.heap.size := by rw [hz18]; exact hsz
      replace hb1 := hb1.upd hG18 (by omega)
      replace hwb := hwb.upd hG18 (by omega)
      replace hWk := hWk.upd hG18 (by omega)
      replace hb8 := hb8.upd hG18 (by omega)
      refine l_q (qab rfl rfl) (l_nil (r_forget [(2, .pointer _), (5, .pointer _), (6, .pointer _), (9, .pointer _), (10, .bool _), (24, .slice _ _ _), (25, .int _ _), (26, .int _ _)] ⟨rfl, rfl, rfl, rfl, rfl, rfl, rfl, rfl, trivial⟩ (fun e19 => (r_seq (r_seq (r_region' (l_q (qmb rfl rfl) (l_q (q_not rfl rfl) (l_nil (r_cond rfl (fun hc20 => ?_) (fun hc20 => ?_)))))))))))
      ·
       replace hc20 := nt hc20
       have hfo : freeOk (rl.map (candL (lg co er se sl rl))) (n : Int) (xs.getD n 0) u = false := by have := hc20; simpa using this
       have hsf := hst.symm.trans hfo
       refine r_seq (r_region' (l_q (qab rfl rfl) (l_nil (r_forget [(4, .bool _)] ⟨rfl, trivial⟩ (fun e21 => (r_ret_ (vs := [.bool _]) rfl Tryz.func45 rfl (.nil _) ⟨rfl, trivial⟩ ?_))))))
       exact ⟨vbool_eq (prov_no hok hln hnl (fun h => by rw [okAt_noB] at h; rw [h.2] at hsf; cases hsf)).symm, Ext.of_below hB⟩
      ·
       replace hc20 := nf hc20
       have hfo : freeOk (rl.map (candL (lg co er se sl rl))) (n : Int) (xs.getD n 0) u = true := by have := hc20; simpa using this
       refine r_skip (r_region' (l_q (q_load_agg (n := 8) Tryz.isAgg106 Tryz.sizeOf106 rfl ((hb12.cells0)) (by rw [List.length_map]; exact freeU_len hub.1) rfl) (l_o (o_store_all (cs' := (freeU (rl.map (candL (lg co er se sl rl))) (n : Int) ((xs).getD n 0) u).map Value.bool) Tryz.sizeOf106 rfl rfl hb8 (by rw [List.length_map]; exact hub.1) (by rw [List.length_map]; exact freeU_len hub.1) (all_one_map _ _ (fun _ => rfl)) rfl ?_))))
       intro w22 hz22 hb8 hG22
       replace hB := below_upd hB hG22 hsz (by omega)
       replace hsz : w.heap.size ≤ w22.heap.size := by rw [hz22]; exact hsz
       replace hb1 := hb1.upd hG22 (by omega)
       replace hwb := hwb.upd hG22 (by omega)
       replace hWk := hWk.upd hG22 (by omega)
       refine l_nil (r_inBlock (r_region' (l_q (q_add rfl rfl (by omega) rfl) (l_q (qmi rfl rfl) (l_nil ?_)))))
       exact ih9 ⟨n + 1, freeU (rl.map (candL (lg co er se sl rl))) (n : Int) (xs.getD n 0) u⟩ _ _ ⟨⟨rfl, rfl, rfl, rfl, rfl, (vint_eq (by omega)), trivial⟩, (by omega), (by rw [take_succ_getD hnl]; exact free_used (by omega) hub hfo), (fun j hj => by rcases Nat.lt_succ_iff_lt_or_eq.1 hj with h | h; exact hall j h; subst h; exact okAt_noB.2 ⟨mem_bys.2 (by omega), hst.symm.trans hfo⟩), hb8, hb1, hwb, hWk, hsz, hB⟩ (by first | omega | (dsimp only; omega))
     ·
      replace hc16 := b2f hc16
      have hrng : ¬ (-1 ≤ (xs.getD n 0) ∧ (xs.getD n 0) ≤ (sl.length : Int) - 1) := by omega
      refine r_skip (r_seq (r_seq (r_region' (l_q (qmb rfl rfl) (l_q (q_not rfl rfl) (l_nil (r_cond_t rfl (r_seq (r_region' (l_q (qab rfl rfl) (l_nil (r_forget [(4, .bool _)] ⟨rfl, trivial⟩ (fun e23 => (r_ret_ (vs := [.bool _]) rfl Tryz.func45 rfl (.nil _) ⟨rfl, trivial⟩ ?_))))))))))))))
      exact ⟨vbool_eq (prov_no hok hln hnl (fun h => hrng (by have := mem_bys.1 (okAt_noB.1 h).1; omega))).symm, Ext.of_below hB⟩
    ·
     replace hc10 := dlt hc10
     refine r_exit rfl (r_seq (r_region' (l_q (qab rfl rfl) (l_nil (r_ret_ (vs := [.bool _]) rfl Tryz.func45 rfl (.nil _) ⟨rfl, trivial⟩ ?_)))))
     exact ⟨vbool_eq ((prov_iff hok hln).2 (fun r hr => hall r (by omega))).symm, Ext.of_below hB⟩
theorem own6_ret (ka : Option Addr) (kc : Nat) (co : List Sg) (er : Int) (sa : Option Addr) (sc : Nat) (se : List Int) (ja : Option Addr) (jc : Nat) (sl : List SN) (ra : Option Addr) (rc : Nat) (rl : List RC) (n : Int) (w : World) (hlg : LgAt w ka kc co sa sc se ja jc sl ra rc rl) (hbg : LgBig co er se sl rl) : Ret Tryz.prog 21 [.agg ⟨[.slice ka co.length kc, vint er, .slice sa se.length sc, .slice ja sl.length jc, .slice ra rl.length rc]⟩, vint n] w (fun v w' => ∃ ra0 rc0, v = .tuple ⟨[.slice ra0 ((ownM (lg co er se sl rl) n).1).length rc0, vint ((ownM (lg co er se sl rl) n).2)]⟩ ∧ Row w' ra0 ((ownM (lg co er se sl rl) n).1).length rc0 1 (((ownM (lg co er se sl rl) n).1).map vint) ∧ Ext w w') := by
 obtain ⟨⟨hcn, hcl⟩, hen, hsn, ⟨hjn, hjl⟩, hrn, hrl⟩ := id hbg
 have hB := Below.refl w.heap.size w
 have hsz : w.heap.size ≤ w.heap.size := Nat.le_refl _
 refine ret_of_runs (args := [_, _]) Tryz.func21 rfl (Nat.le_of_ble_eq_true rfl) (by kernel_rfl) (r_seq (r_region' (l_o (o_box rfl rfl rfl ?_))))
 intro b1 w1 hzl1 hzr1 _ hb1 hE1
 have hbs_b1 : w.heap.size ≤ b1 := Nat.le_trans hsz hzl1
 replace hB := below_ext hB hE1 hsz
 replace hsz := Nat.le_trans hsz hE1.size
 refine l_q (qas rfl rfl) (l_q (qai rfl rfl) (l_nil (r_seq (r_seq (r_region' (l_q (q_load_agg (n := 5) Tryz.isAgg38 Tryz.sizeOf38 rfl ((hb1.cells' (cs' := [_, _, _, _, _]) 0 5 rfl)) rfl rfl) (l_q (qmi rfl rfl) (l_o (o_call Tryz.call64 rfl (masked_ret ka kc co er sa sc se ja jc sl ra rc rl n _ (hlg.below hB) hbg) rfl ?_)))))))))
 rintro _ w2 ⟨rfl, hE2⟩
 replace hB := below_ext hB hE2 hsz
 replace hb1 := hb1.ext hE2
 replace hsz := Nat.le_trans hsz hE2.size
 refine l_q (qai rfl rfl) (l_nil (r_seq (r_region' (l_q (qmi rfl rfl) (l_q (q_neq rfl rfl rfl) (l_nil (r_cond rfl (fun hc3 => ?_) (fun hc3 => ?_))))))))
 ·
  replace hc3 := df (nt hc3)
  have h11 : ¬ askedM (lg co er se sl rl) n = 0 := by have := hc3; simpa using this
  refine r_seq (r_region' (l_q (qmi rfl rfl) (l_q (qas rfl rfl) (l_q (qai rfl rfl) (l_nil (r_forget [(4, .slice _ _ _), (5, .int _ _)] ⟨rfl, rfl, trivial⟩ (fun e4 => (r_ret_ (vs := [.slice _ _ _, .int _ _]) rfl Tryz.func21 rfl (.nil _) ⟨rfl, rfl, trivial⟩ ?_))))))))
  refine ⟨none, 0, ?_, ?_, Ext.of_below hB⟩ <;> rw [ownM_f h11]
  · rfl
  · exact Row.nil _ _ _ _
 ·
  replace hc3 := dt (nf hc3)
  have h11 : askedM (lg co er se sl rl) n = 0 := by have := hc3; simpa using this
  obtain ⟨hok, hn0, hn1⟩ := asked_zero h11
  have hn1 : n ≤ (rl.length : Int) - 1 := hn1
  refine r_skip (r_seq (r_region' (l_q (q_load_agg (n := 5) Tryz.isAgg38 Tryz.sizeOf38 rfl ((hb1.cells' (cs' := [_, _, _, _, _]) 0 5 rfl)) rfl rfl) (l_o (o_call Tryz.call65 rfl (mwork_ret ka kc co er sa sc se ja jc sl ra rc rl _ (hlg.below hB) hbg hok) rfl ?_)))))
  rintro _ w5 ⟨wb, m1, m2, R, rfl, hwb, _, hWk, hRr, hRm, hE5⟩
  have hltW_b1 := hb1.lt
  replace hB := below_ext hB hE5 hsz
  replace hsz := Nat.le_trans hsz hE5.size
  have hwbl := hwb.lt
  have hmwl := hWk.lt
  have hm12 := hWk.1
  refine l_q (q_nilCheck rfl rfl) (l_q (q_fieldAddr (o' := 5) rfl fld96_1 rfl) (l_q (q_load Tryz.isAgg93 rfl ((hwb.has (o := 5) rfl)) rfl) (l_q (qmi rfl rfl) ?_)))
  obtain ⟨va, vc, hv1, hv2⟩ := own_val hRr hRm (n := n.toNat) (by rw [List.length_map]; omega)
  rw [show ((n.toNat : Nat) : Int) = n by omega] at hv1
  obtain ⟨_, e1, c1, e2, ck2, hM1, hH1, hM2, hH2⟩ := id hWk
  refine l_q (q_look1 (v := .slice va ((rl.map (ownL (lg co er se sl rl))).getD n.toNat []).length vc) Tryz.underlying93 Tryz.zeroValue25 rfl rfl hM1 (fun em w => key_int (n := 9999) Tryz.underlying3 _ w) (finds_int Tryz.underlying3 rfl hH1.ints) (by rw [← hv1]; exact hH1.look vint_inj_ n _) rfl) (l_q (qas rfl rfl) (l_q (qai rfl rfl) (l_nil (r_forget [(4, .slice _ _ _), (5, .int _ _)] ⟨rfl, rfl, trivial⟩ (fun e6 => (r_ret_ (vs := [.slice _ _ _, .int _ _]) rfl Tryz.func21 rfl (.nil _) ⟨rfl, rfl, trivial⟩ ?_))))))
  have hnt : n.toNat < rl.length := by omega
  rw [map_getD0 hnt] at hv2 ⊢
  refine ⟨va, vc, ?_, ?_, Ext.of_below hB⟩ <;> rw [ownM_0 h11]
  · rfl
  · exact hv2
set_option maxHeartbeats 1000000 in
theorem leave6_step (ka : Option Addr) (kc : Nat) (co : List Sg) (er : Int) (sa : Option Addr) (sc : Nat) (se : List Int) (ja : Option Addr) (jc : Nat) (sl : List SN) (ra : Option Addr) (rc : Nat) (rl : List RC) (wb m1 m2 : Nat) (R : List SV) (b3 b4 b5 b6 : Nat) (fr k : Nat) (xa : Option Addr) (xc : Nat) (xs : List Int) (a3 : Option Addr) (n3 c3 : Nat) (w : World) (hok : faultM (lg co er se sl rl) = 0) (hn_hq4 : b4 ≠ b3) (hn_hq5 : b5 ≠ b3) (hn_hq6 : b6 ≠ b3) (hn_hwb : wb ≠ b3) (hn_hWm : m1 ≠ b3 ∧ m2 ≠ b3) (hq4 : Blk w b4 [ptr wb 0]) (hq5 : Blk w b5 [.slice ka co.length kc, vint er, .slice sa se.length sc, .slice ja sl.length jc, .slice ra rl.length rc]) (hq6 : Blk w b6 [.func (.func 73) ⟨[]⟩ ⟨[ptr b3 0, ptr b4 0, ptr b5 0, ptr b6 0]⟩]) (hwb : Blk w wb [.slice ka co.length kc, vint er, .slice sa se.length sc, .slice ja sl.length jc, .slice ra rl.length rc, .map (some m1), .map (some m2)]) (hWm : WkMaps w m1 m2 R (rl.map (candL (lg co er se sl rl)))) (hq3 : Blk w b3 [.slice a3 n3 c3]) (hfr : fr ≤ 7) (hxk : xs.length + k ≤ 7) (hx : Row w xa xs.length xc 1 (xs.map vint)) (hxn : xs.length ≤ 2097152) (hn_hx : xs ≠ [] → ∀ x, xa = some x → x.block ≠ b3) (ih : ∀ (k2 fr2 : Nat) (xa2 : Option Addr) (xc2 : Nat) (xs2 : List Int) (a32 : Option Addr) (n32 c32 : Nat) (w1 : World), k = k2 + 1 → fr2 ≤ 7 → xs2.length + k2 ≤ 7 → Blk w1 b4 [ptr wb 0] → Blk w1 b5 [.slice ka co.length kc, vint er, .slice sa se.length sc, .slice ja sl.length jc, .slice ra rl.length rc] → Blk w1 b6 [.func (.func 73) ⟨[]⟩ ⟨[ptr b3 0, ptr b4 0, ptr b5 0, ptr b6 0]⟩] → Blk w1 wb [.slice ka co.length kc, vint er, .slice sa se.length sc, .slice ja sl.length jc, .slice ra rl.length rc, .map (some m1), .map (some m2)] → WkMaps w1 m1 m2 R (rl.map (candL (lg co er se sl rl))) → Blk w1 b3 [.slice a32 n32 c32] → Row w1 xa2 xs2.length xc2 1 (xs2.map vint) → (xs2 ≠ [] → ∀ x, xa2 = some x → x.block ≠ b3) → Ret Tryz.prog 73 [.slice xa2 xs2.length xc2, vint (fr2 : Int), vint (k2 : Int), ptr b3 0, ptr b4 0, ptr b5 0, ptr b6 0] w1 (fun v w' => LeaveP (leavQ (canB (lg co er se sl rl)) sl.length rl.length) rl.length b3 k2 fr2 xs2 w1 v w')) : Ret Tryz.prog 73 [.slice xa xs.length xc, vint (fr : Int), vint (k : Int), ptr b3 0, ptr b4 0, ptr b5 0, ptr b6 0] w (fun v w' => LeaveP (leavQ (canB (lg co er se sl rl)) sl.length rl.length) rl.length b3 k fr xs w v w') := by
 have hG0 := gm_refl b3 w
 have hb3l := hq3.lt
 obtain ⟨⟨hs1, hs4⟩, hj8, hr6, hf0, ⟨he0, he3⟩, hsr, hJn, hRn⟩ := lg_ok hok
 have hj8 : sl.length ≤ 8 := by have h : (lg co er se sl rl).J.length ≤ 8 := hj8; rwa [lgJ] at h
 have hr6 : rl.length ≤ 6 := by have h : (lg co er se sl rl).R.length ≤ 6 := (by omega); exact h
 have hsz : w.heap.size ≤ w.heap.size := Nat.le_refl _
 refine ret_of_runs (args := [_, _, _, _, _, _, _]) Tryz.func73 rfl (Nat.le_of_ble_eq_true rfl) (by kernel_rfl) (r_seq (r_region' (l_q (qab rfl rfl) (l_nil (r_seq (r_seq (r_region' (l_q (qmi rfl rfl) (l_q (q_eql rfl rfl rfl) (l_nil (r_cond rfl (fun hc1 => ?_) (fun hc1 => ?_))))))))))))
 ·
  replace hc1 := dt hc1
  have hk0 : k = 0 := by omega
  refine r_seq (r_region' (l_q (qms rfl rfl) (l_o (o_store (vs := [.slice xa xs.length xc]) (cs' := [.slice xa xs.length xc]) Tryz.sizeOf25 rfl rfl rfl rfl hq3 (Nat.le_of_ble_eq_true rfl) rfl rfl ?_))))
  intro w2 hz2 hq3 hG2
  replace hsz : w.heap.size ≤ w2.heap.size := by rw [hz2]; exact hsz
  replace hG0 := gm_upd hG0 hG2 (by omega)
  refine l_nil (r_seq (r_region' (l_q (q_load Tryz.isAgg97 rfl (((hq4.gk hG0 hn_hq4).has (o := 0) rfl)) rfl) (l_q (q_build (v := .agg ⟨[.bool false, .bool false, .bool false, .bool false, .bool false, .bool false, .bool false, .bool false]⟩) (fun w => by kernel_rfl) rfl) (l_q (qms rfl rfl) ?_)))))
  have hfw0 := few6_ret ka kc co er sa sc se ja jc sl ra rc rl wb m1 m2 R xa xc xs hok hxn rl.length [] (List.replicate 8 false) w2 (hwb.gk hG0 hn_hwb) (hWm.gk hG0 hn_hWm) (Nat.zero_add _) UsedBy.nil (hx.gk hG0 hn_hx)
  refine l_o (o_call Tryz.call74 rfl (hfw0) rfl ?_)
  rintro _ w3 ⟨rfl, hE3⟩
  replace hq3 := hq3.ext hE3
  replace hG0 := grown_trans hG0 (gm_ext hE3)
  replace hsz := Nat.le_trans hsz hE3.size
  refine l_q (q_lss rfl rfl rfl) (l_q (qab rfl rfl) (l_nil (r_forget [(10, .bool _)] ⟨rfl, trivial⟩ (fun e4 => (r_ret_ (vs := [.bool _]) rfl Tryz.func73 rfl (.nil _) ⟨rfl, trivial⟩ ?_)))))
  rw [hk0]
  exact ⟨_, xa, xs.length, xc, rfl, hq3, hG0, fun hy => ⟨xs, leaveF_yes (leavQ_eq hy), rfl, (hx.gk hG0 hn_hx)⟩, fun hy => leaveF_no (leavQ_eq hy)⟩
 ·
  replace hc1 := df hc1
  obtain ⟨k2, hk2⟩ : ∃ k2, k = k2 + 1 := ⟨k - 1, by omega⟩
  refine r_skip (r_seq (r_seq (r_region' (l_q (qmi rfl rfl) (l_q (qai rfl rfl) (l_nil (r_block (r_rounds (α := Nat × (Option Addr) × Nat × Nat) (fun ⟨i, a5, n5, c5⟩ e wl => Knows e [(0, .slice xa xs.length xc), (2, vint (k : Int)), (5, ptr b5 0), (6, ptr b6 0), (11, vint (i : Int))] ∧ (i ≤ 7) ∧ (leaveF (leavQ (canB (lg co er se sl rl)) sl.length rl.length) rl.length k fr xs = scanP (fun i => leaveF (leavQ (canB (lg co er se sl rl)) sl.length rl.length) rl.length k2 (i + 1) (xs ++ [(i : Int)])) (rl.length - i) i) ∧ (Blk wl b3 [.slice a5 n5 c5]) ∧ (w.grownBy wl (some b3)) ∧ (w.heap.size ≤ wl.heap.size)) (fun ⟨i, a5, n5, c5⟩ => rl.length - i) ⟨fr, a3, n3, c3⟩ ?_ ?_))))))))
  ·
   exact ⟨⟨rfl, rfl, rfl, rfl, rfl, trivial⟩, hfr, (by rw [hk2]; rfl), hq3, hG0, hsz⟩
  ·
   rintro ⟨i, a5, n5, c5⟩ el5 wl5 ⟨hkn, hi9, hA, hq3, hG0, hsz⟩ ih5
   obtain ⟨e5, rfl⟩ := knows_env hkn
   refine r_seq (r_seq (r_region' (l_q (qmi rfl rfl) (l_q (q_fieldAddr (o' := 4) rfl fld38_4 rfl) (l_q (q_load Tryz.isAgg36 rfl (((hq5.gk hG0 hn_hq5).has (o := 4) rfl)) rfl) (l_q (q_len rfl Tryz.underlying36 rfl rfl) (l_q (q_lss rfl rfl rfl) (l_nil (r_cond rfl (fun hc6 => ?_) (fun hc6 => ?_))))))))))
   ·
    replace hc6 := dt hc6
    have hiR : i < rl.length := by omega
    refine r_skip (r_seq (r_block (r_seq ?_)))
    have hszR : w.heap.size ≤ wl5.heap.size := hsz
    have hszW : wl5.heap.size ≤ wl5.heap.size := Nat.le_refl _
    have hltR_b4 := (hq4.gk hG0 hn_hq4).lt
    have hltR_b5 := (hq5.gk hG0 hn_hq5).lt
    have hltR_b6 := (hq6.gk hG0 hn_hq6).lt
    have hltR_wb := (hwb.gk hG0 hn_hwb).lt
    have hltR_b3 := hq3.lt
    refine r_draw3 (Below.refl wl5.heap.size) (fun _ _ _ h1 h2 => h1.trans h2) (.op 0 (.op 1 (.op 3 (.op 6 (.op 7 (.op 8 (.op 9 (.fork 2 (.op 4 (.op 5 (.op 10 (.done)))) (.op 4 (.op 2 (.op 5 (.op 10 (.done))))))))))))) [2, 4, 5, 10, 1010] 12 (by kernel_rfl) (by kernel_rfl) ?_
    intro w7 _ hE7
    replace hq3 := hq3.ext hE7
    replace hG0 := grown_trans hG0 (gm_ext hE7)
    replace hszW := Nat.le_trans hszW hE7.size
    replace hsz := Nat.le_trans hsz hE7.size
    refine m_q3 rfl rfl (fun w' hC' => q_load Tryz.isAgg103 rfl ((((hq6.gk hG0 hn_hq6).keep (hC'.block _ hltR_b6)).has (o := 0) rfl)) rfl) (m_q3 rfl rfl (fun w' hC' => qms rfl rfl) (m_q3 rfl rfl (fun w' hC' => qmi rfl rfl) (m_q3 rfl rfl (fun w' hC' => qmi rfl rfl) (m_q3 rfl rfl (fun w' hC' => q_add rfl rfl (by omega) rfl) (m_q3 rfl rfl (fun w' hC' => qmi rfl rfl) (m_q3 rfl rfl (fun w' hC' => q_sub rfl rfl (by omega) rfl) (m_fork3 ?_ ?_)))))))
    ·
     refine m_o3 rfl rfl (o_call Tryz.call75 rfl (clone6_ret _ _ xs _ (hx.gk hG0 hn_hx) (by omega)) rfl ?_)
     rintro _ w8 ⟨a8_0, c8_0, rfl, ho8_0, hE8⟩
     replace ho8_0 := own_mono ho8_0 (show wl5.heap.size ≤ _ by omega)
     refine ⟨(below_ext_of hE8 hszW), ?_⟩
     replace hq3 := hq3.ext hE8
     replace hG0 := grown_trans hG0 (gm_ext hE8)
     replace hszW := Nat.le_trans hszW hE8.size
     replace hsz := Nat.le_trans hsz hE8.size
     have hbl_b3 := hq3.lt
     refine m_o3 rfl rfl (o_buildSlice (el := 3) (cs := [vint (i : Int)]) Tryz.underlying25 el3 (by decide) (by kernel_rfl) rfl (by decide) rfl ?_)
     intro b9 w9 hzl9 hzr9 _ hb9 hE9 ho9
     refine ⟨(below_ext_of hE9 hszW), ?_⟩
     have hne_b4_b9 : b4 ≠ b9 := by have := hq4.lt; omega
     have hne_b5_b9 : b5 ≠ b9 := by have := hq5.lt; omega
     have hne_b6_b9 : b6 ≠ b9 := by have := hq6.lt; omega
     have hne_wb_b9 : wb ≠ b9 := by have := hwb.lt; omega
     have hne_b3_b9 : b3 ≠ b9 := by have := hq3.lt; omega
     have hbs_b9 : w.heap.size ≤ b9 := Nat.le_trans hsz hzl9
     have hWp_b9 := hszW
     have hbW_b9 := Nat.le_trans hszW hzl9
     replace hq3 := hq3.ext hE9
     replace hG0 := grown_trans hG0 (gm_ext hE9)
     replace hszW := Nat.le_trans hszW hE9.size
     replace ho8_0 := own_ext ho8_0 hE9
     replace hsz := Nat.le_trans hsz hE9.size
     replace ho9 := own_mono ho9 (show wl5.heap.size ≤ _ by omega)
     have hbl_b3 := hq3.lt
     refine m_o3 rfl rfl (o_append_map (f := vint) (xs) ([(i : Int)]) Tryz.underlying25 el3 rfl rfl ho8_0 rfl (Row.of_owns ho9) (fun _ => rfl) (by (try simp only [List.length_append, List.length_cons, List.length_nil, List.length_take, List.length_drop, List.length_replicate]); omega) (by omega) rfl ?_)
     intro a10 c10 w10 hz10 ho10 hG10
     refine ⟨(below_own_of hG10 ho8_0 (by omega) hszW), ?_⟩
     replace hsz := Nat.le_trans hsz hG10.size
     replace hq3 := hq3.step hG10 (own_ne ho8_0 (by omega))
     replace hG0 := grown_own hG0 ho8_0 hG10 (by omega)
     have hm1 : ((k : Nat) : Int) - 1 = ((k2 : Nat) : Int) := by omega
     have hih := ih k2 (i + 1) _ _ (xs ++ [(i : Int)]) a5 n5 c5 w10 hk2 (by omega) (by simp only [List.length_append, List.length_cons, List.length_nil]; omega) (hq4.gk hG0 hn_hq4) (hq5.gk hG0 hn_hq5) (hq6.gk hG0 hn_hq6) (hwb.gk hG0 hn_hwb) (hWm.gk hG0 hn_hWm) hq3 (Row.of_owns ho10) (own_blk_ne ho10 (by omega))
     rw [← hm1] at hih
     refine m_last3 rfl rfl rfl (o_callv (f := 73) (fst := []) (cap := [_, _, _, _]) rfl Tryz.call73 rfl (hih) rfl ?_)
     rintro _ w11 ⟨y38, a4, n4, c4, rfl, hq3, hG3, hyT, hyF⟩
     replace hG0 := grown_trans hG0 hG3
     replace hsz := Nat.le_trans hsz hG3.size
     refine m_nil3 (r_forget [(0, .slice _ _ _), (2, .int _ _), (5, .pointer _), (6, .pointer _), (11, .int _ _), (38, .bool _)] ⟨rfl, rfl, rfl, rfl, rfl, rfl, trivial⟩ (fun e12 => (r_cond rfl (fun hc13 => ?_) (fun hc13 => ?_))))
     ·
      have hyt := hyT hc13
      refine r_seq (r_region' (l_q (qab rfl rfl) (l_nil (r_ret_ (vs := [.bool _]) rfl Tryz.func73 rfl (.nil _) ⟨rfl, trivial⟩ ?_))))
      obtain ⟨l2, hl2, hn4, hr4⟩ := hyt
      exact ⟨true, a4, n4, c4, rfl, hq3, hG0, fun _ => ⟨l2, hA.trans (scan_at hiR hl2), hn4, hr4⟩, fun h => by cases h⟩
     ·
      have hyf := hyF hc13
      refine r_skip (r_inBlock (r_region' (l_q (qmi rfl rfl) (l_q (q_add rfl rfl (by omega) rfl) (l_q (qai rfl rfl) (l_nil ?_))))))
      exact ih5 ⟨i + 1, a4, n4, c4⟩ _ _ ⟨⟨rfl, rfl, rfl, rfl, (vint_eq (by omega)), trivial⟩, (by omega), (hA.trans (scan_skip hiR hyf)), hq3, hG0, hsz⟩ (by first | omega | (dsimp only; omega))
    ·
     have hbl_b3 := hq3.lt
     refine m_o3 rfl rfl (o_buildSlice (el := 3) (cs := [vint (i : Int)]) Tryz.underlying25 el3 (by decide) (by kernel_rfl) rfl (by decide) rfl ?_)
     intro b14 w14 hzl14 hzr14 _ hb14 hE14 ho14
     refine ⟨(below_ext_of hE14 hszW), ?_⟩
     have hne_b4_b14 : b4 ≠ b14 := by have := hq4.lt; omega
     have hne_b5_b14 : b5 ≠ b14 := by have := hq5.lt; omega
     have hne_b6_b14 : b6 ≠ b14 := by have := hq6.lt; omega
     have hne_wb_b14 : wb ≠ b14 := by have := hwb.lt; omega
     have hne_b3_b14 : b3 ≠ b14 := by have := hq3.lt; omega
     have hbs_b14 : w.heap.size ≤ b14 := Nat.le_trans hsz hzl14
     have hWp_b14 := hszW
     have hbW_b14 := Nat.le_trans hszW hzl14
     replace hq3 := hq3.ext hE14
     replace hG0 := grown_trans hG0 (gm_ext hE14)
     replace hszW := Nat.le_trans hszW hE14.size
     replace hsz := Nat.le_trans hsz hE14.size
     replace ho14 := own_mono ho14 (show wl5.heap.size ≤ _ by omega)
     refine m_o3 rfl rfl (o_call Tryz.call75 rfl (clone6_ret _ _ xs _ (hx.gk hG0 hn_hx) (by omega)) rfl ?_)
     rintro _ w15 ⟨a15_0, c15_0, rfl, ho15_0, hE15⟩
     replace ho15_0 := own_mono ho15_0 (show wl5.heap.size ≤ _ by omega)
     refine ⟨(below_ext_of hE15 hszW), ?_⟩
     replace hq3 := hq3.ext hE15
     replace hG0 := grown_trans hG0 (gm_ext hE15)
     replace hszW := Nat.le_trans hszW hE15.size
     replace ho14 := own_ext ho14 hE15
     replace hsz := Nat.le_trans hsz hE15.size
     have hbl_b3 := hq3.lt
     refine m_o3 rfl rfl (o_append_map (f := vint) (xs) ([(i : Int)]) Tryz.underlying25 el3 rfl rfl ho15_0 rfl (Row.of_owns ho14) (fun _ => rfl) (by (try simp only [List.length_append, List.length_cons, List.length_nil, List.length_take, List.length_drop, List.length_replicate]); omega) (by omega) rfl ?_)
     intro a16 c16 w16 hz16 ho16 hG16
     refine ⟨(below_own_of hG16 ho15_0 (by omega) hszW), ?_⟩
     replace hsz := Nat.le_trans hsz hG16.size
     replace hq3 := hq3.step hG16 (own_ne ho15_0 (by omega))
     replace hG0 := grown_own hG0 ho15_0 hG16 (by omega)
     have hm1 : ((k : Nat) : Int) - 1 = ((k2 : Nat) : Int) := by omega
     have hih := ih k2 (i + 1) _ _ (xs ++ [(i : Int)]) a5 n5 c5 w16 hk2 (by omega) (by simp only [List.length_append, List.length_cons, List.length_nil]; omega) (hq4.gk hG0 hn_hq4) (hq5.gk hG0 hn_hq5) (hq6.gk hG0 hn_hq6) (hwb.gk hG0 hn_hwb) (hWm.gk hG0 hn_hWm) hq3 (Row.of_owns ho16) (own_blk_ne ho16 (by omega))
     rw [← hm1] at hih
     refine m_last3 rfl rfl rfl (o_callv (f := 73) (fst := []) (cap := [_, _, _, _]) rfl Tryz.call73 rfl (hih) rfl ?_)
     rintro _ w17 ⟨y38, a4, n4, c4, rfl, hq3, hG3, hyT, hyF⟩
     replace hG0 := grown_trans hG0 hG3
     replace hsz := Nat.le_trans hsz hG3.size
     refine m_nil3 (r_forget [(0, .slice _ _ _), (2, .int _ _), (5, .pointer _), (6, .pointer _), (11, .int _ _), (38, .bool _)] ⟨rfl, rfl, rfl, rfl, rfl, rfl, trivial⟩ (fun e18 => (r_cond rfl (fun hc19 => ?_) (fun hc19 => ?_))))
     ·
      have hyt := hyT hc19
      refine r_seq (r_region' (l_q (qab rfl rfl) (l_nil (r_ret_ (vs := [.bool _]) rfl Tryz.func73 rfl (.nil _) ⟨rfl, trivial⟩ ?_))))
      obtain ⟨l2, hl2, hn4, hr4⟩ := hyt
      exact ⟨true, a4, n4, c4, rfl, hq3, hG0, fun _ => ⟨l2, hA.trans (scan_at hiR hl2), hn4, hr4⟩, fun h => by cases h⟩
     ·
      have hyf := hyF hc19
      refine r_skip (r_inBlock (r_region' (l_q (qmi rfl rfl) (l_q (q_add rfl rfl (by omega) rfl) (l_q (qai rfl rfl) (l_nil ?_))))))
      exact ih5 ⟨i + 1, a4, n4, c4⟩ _ _ ⟨⟨rfl, rfl, rfl, rfl, (vint_eq (by omega)), trivial⟩, (by omega), (hA.trans (scan_skip hiR hyf)), hq3, hG0, hsz⟩ (by first | omega | (dsimp only; omega))
   ·
    replace hc6 := dlt hc6
    refine r_exit rfl (r_seq (r_region' (l_q (qab rfl rfl) (l_nil (r_forget [(10, .bool _)] ⟨rfl, trivial⟩ (fun e20 => (r_ret_ (vs := [.bool _]) rfl Tryz.func73 rfl (.nil _) ⟨rfl, trivial⟩ ?_)))))))
    exact ⟨false, a5, n5, c5, rfl, hq3, hG0, (fun h => by cases h), fun _ => hA.trans (scan_end (by omega))⟩
theorem leave6_all (ka : Option Addr) (kc : Nat) (co : List Sg) (er : Int) (sa : Option Addr) (sc : Nat) (se : List Int) (ja : Option Addr) (jc : Nat) (sl : List SN) (ra : Option Addr) (rc : Nat) (rl : List RC) (wb m1 m2 : Nat) (R : List SV) (b3 b4 b5 b6 : Nat) (hok : faultM (lg co er se sl rl) = 0) (hn_hq4 : b4 ≠ b3) (hn_hq5 : b5 ≠ b3) (hn_hq6 : b6 ≠ b3) (hn_hwb : wb ≠ b3) (hn_hWm : m1 ≠ b3 ∧ m2 ≠ b3) : ∀ (k fr : Nat) (xa : Option Addr) (xc : Nat) (xs : List Int) (a3 : Option Addr) (n3 c3 : Nat) (w : World), fr ≤ 7 → xs.length + k ≤ 7 → Blk w b4 [ptr wb 0] → Blk w b5 [.slice ka co.length kc, vint er, .slice sa se.length sc, .slice ja sl.length jc, .slice ra rl.length rc] → Blk w b6 [.func (.func 73) ⟨[]⟩ ⟨[ptr b3 0, ptr b4 0, ptr b5 0, ptr b6 0]⟩] → Blk w wb [.slice ka co.length kc, vint er, .slice sa se.length sc, .slice ja sl.length jc, .slice ra rl.length rc, .map (some m1), .map (some m2)] → WkMaps w m1 m2 R (rl.map (candL (lg co er se sl rl))) → Blk w b3 [.slice a3 n3 c3] → Row w xa xs.length xc 1 (xs.map vint) → (xs ≠ [] → ∀ x, xa = some x → x.block ≠ b3) → Ret Tryz.prog 73 [.slice xa xs.length xc, vint (fr : Int), vint (k : Int), ptr b3 0, ptr b4 0, ptr b5 0, ptr b6 0] w (fun v w' => LeaveP (leavQ (canB (lg co er se sl rl)) sl.length rl.length) rl.length b3 k fr xs w v w')
  | 0, fr, xa, xc, xs, a3, n3, c3, w, hfr, hxk, h1, h2, h3, h4, h5, h6, hx, hnx => leave6_step ka kc co er sa sc se ja jc sl ra rc rl wb m1 m2 R b3 b4 b5 b6 fr 0 xa xc xs a3 n3 c3 w hok hn_hq4 hn_hq5 hn_hq6 hn_hwb hn_hWm h1 h2 h3 h4 h5 h6 hfr hxk hx (by omega) hnx (fun k2 fr2 xa2 xc2 xs2 a32 n32 c32 w1 h => by omega)
  | k + 1, fr, xa, xc, xs, a3, n3, c3, w, hfr, hxk, h1, h2, h3, h4, h5, h6, hx, hnx => leave6_step ka kc co er sa sc se ja jc sl ra rc rl wb m1 m2 R b3 b4 b5 b6 fr (k + 1) xa xc xs a3 n3 c3 w hok hn_hq4 hn_hq5 hn_hq6 hn_hwb hn_hWm h1 h2 h3 h4 h5 h6 hfr hxk hx (by omega) hnx (fun k2 fr2 xa2 xc2 xs2 a32 n32 c32 w1 h g1 g2 g3 g4 g5 g6 g7 g8 g9 g10 => by
    have e : k2 = k := by omega
    subst e
    exact leave6_all ka kc co er sa sc se ja jc sl ra rc rl wb m1 m2 R b3 b4 b5 b6 hok hn_hq4 hn_hq5 hn_hq6 hn_hwb hn_hWm k2 fr2 xa2 xc2 xs2 a32 n32 c32 w1 g1 g2 g3 g4 g5 g6 g7 g8 g9 g10)
set_option maxHeartbeats 1000000 in
theorem leave6_ret (ka : Option Addr) (kc : Nat) (co : List Sg) (er : Int) (sa : Option Addr) (sc : Nat) (se : List Int) (ja : Option Addr) (jc : Nat) (sl : List SN) (ra : Option Addr) (rc : Nat) (rl : List RC) (w : World) (hlg : LgAt w ka kc co sa sc se ja jc sl ra rc rl) (hbg : LgBig co er se sl rl) : Ret Tryz.prog 32 [.agg ⟨[.slice ka co.length kc, vint er, .slice sa se.length sc, .slice ja sl.length jc, .slice ra rl.length rc]⟩] w (fun v w' => ∃ ra0 rc0, v = .tuple ⟨[.slice ra0 ((leavW (lg co er se sl rl)).1).length rc0, vint ((leavW (lg co er se sl rl)).2)]⟩ ∧ Row w' ra0 ((leavW (lg co er se sl rl)).1).length rc0 1 (((leavW (lg co er se sl rl)).1).map vint) ∧ Ext w w') := by
 obtain ⟨⟨hcn, hcl⟩, hen, hsn, ⟨hjn, hjl⟩, hrn, hrl⟩ := id hbg
 have hB := Below.refl w.heap.size w
 have hsz : w.heap.size ≤ w.heap.size := Nat.le_refl _
 refine ret_of_runs (args := [_]) Tryz.func32 rfl (Nat.le_of_ble_eq_true rfl) (by kernel_rfl) (r_seq (r_region' (l_o (o_box rfl rfl rfl ?_))))
 intro b1 w1 hzl1 hzr1 _ hb1 hE1
 have hbs_b1 : w.heap.size ≤ b1 := Nat.le_trans hsz hzl1
 replace hB := below_ext hB hE1 hsz
 replace hsz := Nat.le_trans hsz hE1.size
 refine l_q (qas rfl rfl) (l_q (qai rfl rfl) (l_nil (r_scope (r_seq (r_seq (r_region' (l_q (q_load_agg (n := 5) Tryz.isAgg38 Tryz.sizeOf38 rfl ((hb1.cells' (cs' := [_, _, _, _, _]) 0 5 rfl)) rfl rfl) (l_o (o_call Tryz.call19 rfl (checkLog_ret ka kc co er sa sc se ja jc sl ra rc rl _ (hlg.below hB) hbg) rfl ?_)))))))))
 rintro _ w2 ⟨rfl, hE2⟩
 replace hB := below_ext hB hE2 hsz
 replace hb1 := hb1.ext hE2
 replace hsz := Nat.le_trans hsz hE2.size
 refine l_q (qai rfl rfl) (l_nil (r_seq (r_region' (l_q (qmi rfl rfl) (l_q (q_neq rfl rfl rfl) (l_nil (r_cond rfl (fun hc3 => ?_) (fun hc3 => ?_))))))))
 ·
  replace hc3 := df (nt hc3)
  have h12 : ¬ faultM (lg co er se sl rl) = 0 := by have := hc3; simpa using this
  refine r_seq (r_region' (l_q (qmi rfl rfl) (l_q (qas rfl rfl) (l_q (qai rfl rfl) (l_nil (r_ret_ (vs := [.slice _ _ _, .int _ _]) rfl Tryz.func32 rfl (.nil _) ⟨rfl, rfl, trivial⟩ ?_))))))
  refine ⟨none, 0, ?_, ?_, Ext.of_below hB⟩ <;> rw [leavW_f h12]
  · rfl
  · exact Row.nil _ _ _ _
 ·
  replace hc3 := dt (nf hc3)
  have hok : faultM (lg co er se sl rl) = 0 := by have := hc3; simpa using this
  obtain ⟨⟨hs1, hs4⟩, hj8, hr6, hf0, ⟨he0, he3⟩, hsr, hJn, hRn⟩ := lg_ok hok
  have hj8 : sl.length ≤ 8 := by have h : (lg co er se sl rl).J.length ≤ 8 := hj8; rwa [lgJ] at h
  have hr6 : rl.length ≤ 6 := by have h : (lg co er se sl rl).R.length ≤ 6 := (by omega); exact h
  refine r_skip (r_seq (r_region' (l_q (q_load_agg (n := 5) Tryz.isAgg38 Tryz.sizeOf38 rfl ((hb1.cells' (cs' := [_, _, _, _, _]) 0 5 rfl)) rfl rfl) (l_o (o_call Tryz.call65 rfl (mwork_ret ka kc co er sa sc se ja jc sl ra rc rl _ (hlg.below hB) hbg hok) rfl ?_)))))
  rintro _ w4 ⟨wb, m1, m2, R, rfl, hwb, _, hWk, hRr, hRm, hE4⟩
  have hltW_b1 := hb1.lt
  replace hB := below_ext hB hE4 hsz
  replace hb1 := hb1.ext hE4
  replace hsz := Nat.le_trans hsz hE4.size
  have hwbl := hwb.lt
  have hmwl := hWk.lt
  have hm12 := hWk.1
  refine l_o (o_alloc Tryz.zeroValue97 rfl rfl ?_)
  intro b5 w5 hzl5 hzr5 _ hb5 hE5
  have hne_b1_b5 : b1 ≠ b5 := by have := hb1.lt; omega
  have hne_wb_b5 : wb ≠ b5 := by have := hwb.lt; omega
  have hmw_b5 : m2 < b5 := Nat.lt_of_lt_of_le hWk.lt hzl5
  have hbs_b5 : w.heap.size ≤ b5 := Nat.le_trans hsz hzl5
  replace hB := below_ext hB hE5 hsz
  replace hb1 := hb1.ext hE5
  replace hwb := hwb.ext hE5
  replace hWk := hWk.ext hE5
  replace hsz := Nat.le_trans hsz hE5.size
  refine l_o (o_store (vs := [ptr wb 0]) (cs' := [ptr wb 0]) Tryz.sizeOf97 rfl rfl rfl rfl hb5 (Nat.le_of_ble_eq_true rfl) rfl rfl ?_)
  intro w6 hz6 hb5 hG6
  replace hB := below_upd hB hG6 hsz (by omega)
  replace hsz : w.heap.size ≤ w6.heap.size := by rw [hz6]; exact hsz
  replace hb1 := hb1.upd hG6 (by omega)
  replace hwb := hwb.upd hG6 (by omega)
  replace hWk := hWk.upd hG6 (by omega)
  refine l_nil (r_forget [(1, .pointer _), (5, .pointer _)] ⟨rfl, rfl, trivial⟩ (fun e7 => (r_seq (r_region' (l_o (o_alloc Tryz.zeroValue25 rfl rfl ?_))))))
  intro b8 w8 hzl8 hzr8 _ hb8 hE8
  have hne_b1_b8 : b1 ≠ b8 := by have := hb1.lt; omega
  have hne_wb_b8 : wb ≠ b8 := by have := hwb.lt; omega
  have hne_b5_b8 : b5 ≠ b8 := by have := hb5.lt; omega
  have hmw_b8 : m2 < b8 := Nat.lt_of_lt_of_le hWk.lt hzl8
  have hbs_b8 : w.heap.size ≤ b8 := Nat.le_trans hsz hzl8
  replace hB := below_ext hB hE8 hsz
  replace hb1 := hb1.ext hE8
  replace hwb := hwb.ext hE8
  replace hWk := hWk.ext hE8
  replace hb5 := hb5.ext hE8
  replace hsz := Nat.le_trans hsz hE8.size
  refine l_nil (r_seq (r_region' (l_o (o_alloc Tryz.zeroValue103 rfl rfl ?_))))
  intro b9 w9 hzl9 hzr9 _ hb9 hE9
  have hne_b1_b9 : b1 ≠ b9 := by have := hb1.lt; omega
  have hne_wb_b9 : wb ≠ b9 := by have := hwb.lt; omega
  have hne_b5_b9 : b5 ≠ b9 := by have := hb5.lt; omega
  have hne_b8_b9 : b8 ≠ b9 := by have := hb8.lt; omega
  have hmw_b9 : m2 < b9 := Nat.lt_of_lt_of_le hWk.lt hzl9
  have hbs_b9 : w.heap.size ≤ b9 := Nat.le_trans hsz hzl9
  replace hB := below_ext hB hE9 hsz
  replace hb1 := hb1.ext hE9
  replace hwb := hwb.ext hE9
  replace hWk := hWk.ext hE9
  replace hb5 := hb5.ext hE9
  replace hb8 := hb8.ext hE9
  replace hsz := Nat.le_trans hsz hE9.size
  refine l_nil (r_seq (r_region' (l_q (q_makeFunc (v := .func _ ⟨[]⟩ ⟨[_, _, _, _]⟩) rfl rfl) (l_o (o_store (vs := [.func (.func 73) ⟨[]⟩ ⟨[ptr b8 0, ptr b5 0, ptr b1 0, ptr b9 0]⟩]) (cs' := [.func (.func 73) ⟨[]⟩ ⟨[ptr b8 0, ptr b5 0, ptr b1 0, ptr b9 0]⟩]) Tryz.sizeOf103 rfl rfl rfl rfl hb9 (Nat.le_of_ble_eq_true rfl) rfl rfl ?_)))))
  intro w10 hz10 hb9 hG10
  replace hB := below_upd hB hG10 hsz (by omega)
  replace hsz : w.heap.size ≤ w10.heap.size := by rw [hz10]; exact hsz
  replace hb1 := hb1.upd hG10 (by omega)
  replace hwb := hwb.upd hG10 (by omega)
  replace hWk := hWk.upd hG10 (by omega)
  replace hb5 := hb5.upd hG10 (by omega)
  replace hb8 := hb8.upd hG10 (by omega)
  refine l_nil (r_seq (r_label (r_seq (r_seq (r_region' (l_q (q_fieldAddr (o' := 4) rfl fld38_4 rfl) (l_q (q_load Tryz.isAgg36 rfl ((hb1.has (o := 4) rfl)) rfl) (l_q (q_len rfl Tryz.underlying36 rfl rfl) (l_q (q_add rfl rfl (by omega) rfl) (l_q (qmi rfl rfl) (l_nil (r_block ?_))))))))))))
  refine r_rounds (α := Nat × (Option Addr) × Nat × Nat) (fun ⟨k, a5, n5, c5⟩ e wl => Knows e [(6, ptr b8 0), (7, ptr b9 0), (20, vint ((rl.length : Int) + 1)), (21, vint (k : Int))] ∧ (k ≤ rl.length + 1) ∧ (leaveA (leavQ (canB (lg co er se sl rl)) sl.length rl.length) rl.length = scanP (fun m => leaveF (leavQ (canB (lg co er se sl rl)) sl.length rl.length) rl.length m 0 []) (rl.length + 1 - k) k) ∧ (Blk wl b8 [.slice a5 n5 c5]) ∧ (Blk wl b1 [.slice ka co.length kc, vint er, .slice sa se.length sc, .slice ja sl.length jc, .slice ra rl.length rc]) ∧ (Blk wl wb [.slice ka co.length kc, vint er, .slice sa se.length sc, .slice ja sl.length jc, .slice ra rl.length rc, .map (some m1), .map (some m2)]) ∧ (WkMaps wl m1 m2 R (rl.map (candL (lg co er se sl rl)))) ∧ (Blk wl b5 [ptr wb 0]) ∧ (Blk wl b9 [.func (.func 73) ⟨[]⟩ ⟨[ptr b8 0, ptr b5 0, ptr b1 0, ptr b9 0]⟩]) ∧ (w.heap.size ≤ wl.heap.size) ∧ (Below w.heap.size w wl)) (fun ⟨k, a5, n5, c5⟩ => rl.length + 1 - k) ⟨0, none, 0, 0⟩ ?_ ?_
  ·
   exact ⟨⟨rfl, rfl, rfl, rfl, trivial⟩, (by omega), rfl, hb8, hb1, hwb, hWk, hb5, hb9, hsz, hB⟩
  ·
   rintro ⟨k, a5, n5, c5⟩ el11 wl11 ⟨hkn, hk7, hA, hb8, hb1, hwb, hWk, hb5, hb9, hsz, hB⟩ ih11
   obtain ⟨e11, rfl⟩ := knows_env hkn
   refine r_seq (r_region' (l_q (q_lss rfl rfl rfl) (l_nil (r_seq (r_cond rfl (fun hc12 => ?_) (fun hc12 => ?_))))))
   ·
    replace hc12 := dt hc12
    have hkR : k < rl.length + 1 := by omega
    refine r_skip (r_seq (r_block (r_seq (r_region' (l_q (qmi rfl rfl) (l_q (qai rfl rfl) (l_nil (r_seq (r_region' (l_q (q_load Tryz.isAgg103 rfl ((hb9.has (o := 0) rfl)) rfl) (l_q (qmi rfl rfl) (l_o (o_callv (f := 73) (fst := []) (cap := [_, _, _, _]) rfl Tryz.call73 rfl (leave6_all ka kc co er sa sc se ja jc sl ra rc rl wb m1 m2 R b8 b5 b1 b9 hok (by omega) (by omega) (by omega) (by omega) ⟨by omega, by omega⟩ k 0 none 0 [] a5 n5 c5 _ (by omega) (by simp only [List.length_nil]; omega) hb5 hb1 hb9 hwb hWk hb8 (Row.nil _ _ _ _) (fun h => absurd rfl h)) rfl ?_)))))))))))))
    rintro _ w13 ⟨y26, a4, n4, c4, rfl, hb8, hG3, hyT, hyF⟩
    replace hB := below_upd_any hB hG3 hbs_b8 hsz
    replace hsz := Nat.le_trans hsz hG3.size
    replace hb1 := hb1.upd hG3 (by omega)
    replace hwb := hwb.upd hG3 (by omega)
    replace hWk := hWk.gk hG3 ⟨by omega, by omega⟩
    replace hb5 := hb5.upd hG3 (by omega)
    replace hb9 := hb9.upd hG3 (by omega)
    refine l_nil (r_cond rfl (fun hc14 => ?_) (fun hc14 => ?_))
    ·
     have hyt := hyT hc14
     refine r_exit rfl (r_seq (r_region' (l_q (q_load Tryz.isAgg25 rfl ((hb8.has (o := 0) rfl)) rfl) (l_q (qas rfl rfl) (l_q (qai rfl rfl) (l_nil (r_forget [(2, .slice _ _ _), (3, .int _ _)] ⟨rfl, rfl, trivial⟩ (fun e15 => (r_ret_ (vs := [.slice _ _ _, .int _ _]) rfl Tryz.func32 rfl (.nil _) ⟨rfl, rfl, trivial⟩ ?_)))))))))
     obtain ⟨l2, hl2, rfl, hr4⟩ := hyt
     refine ⟨a4, c4, ?_, ?_, Ext.of_below hB⟩ <;> rw [leavW_ok hok (hA.trans (scan_at hkR hl2))]
     · rfl
     · exact hr4
    ·
     have hyf := hyF hc14
     refine r_skip (r_inBlock (r_region' (l_q (q_add rfl rfl (by omega) rfl) (l_q (qmi rfl rfl) (l_nil ?_)))))
     exact ih11 ⟨k + 1, a4, n4, c4⟩ _ _ ⟨⟨rfl, rfl, rfl, (vint_eq (by omega)), trivial⟩, (by omega), (hA.trans (scan_skip hkR hyf)), hb8, hb1, hwb, hWk, hb5, hb9, hsz, hB⟩ (by first | omega | (dsimp only; omega))
   ·
    replace hc12 := dlt hc12
    refine r_exit rfl (r_seq (r_region' (l_q (q_load Tryz.isAgg25 rfl ((hb8.has (o := 0) rfl)) rfl) (l_q (qas rfl rfl) (l_q (qai rfl rfl) (l_nil (r_ret_ (vs := [.slice _ _ _, .int _ _]) rfl Tryz.func32 rfl (.nil _) ⟨rfl, rfl, trivial⟩ ?_)))))))
    exact (leavA_dead (hA.trans (scan_end (by omega)))).elim
end Go.Proofs.YtekkdhpgcilpdaaGreat
