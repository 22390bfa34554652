/- Contracts. -/
import Derived.Test.YtbikicakdkbcgaaR11
set_option linter.unusedVariables false
set_option linter.unusedSimpArgs false
namespace Go.Proofs.Ytbikicakdkbcgaa
open Go Go.RowKit Go.Gv Go.Fl

theorem mf_ok {fl : Int} {G : List RG} (h : mfault fl G = 0) : (0 ≤ fl ∧ fl ≤ 100) ∧ (0 < G.length ∧ G.length ≤ 8) ∧ ∀ x ∈ G, okRG x = true := by
  unfold mfault at h
  split at h
  · cases h
  · split at h
    · rename_i h1 h2
      exact ⟨h2.1, ⟨h2.2.1, by omega⟩, List.all_eq_true.1 h2.2.2⟩
    · cases h
theorem made_two (n : Nat) : (madeCells (Value.agg ⟨[vint 0, vint 0]⟩).cells (n * 2)).toList = (List.replicate (n * 2) (0 : Int)).map vint := by
  apply List.ext_getElem
  · simp [madeCells]
  · intro i h1 h2
    simp [madeCells, Value.cells]
    rcases Nat.mod_two_eq_zero_or_one i with h | h <;> simp [h]
/-- the ranges of the brightness -/
def rgL (xs : List Int) (G : List RG) (k : Nat) : List RG := (List.range k).map (fun i => ⟨(dimsM (fun x => x.hi) xs G).getD i 0, (dimsM (fun x => x.lo) xs G).getD i 0⟩)
def rgV (xs : List Int) (G : List RG) (k : Nat) : List Int := (rgL xs G k).flatMap (fun x => [x.lo, x.hi]) ++ List.replicate ((G.length - k) * 2) 0
def brightM (fl : Int) (G : List RG) (xs : List Int) : Int × List RG := if mfault fl G = 0 then (if risB xs (G.length : Int) = true then (0, rgL xs G G.length) else (2, [])) else (mfault fl G, [])
section
variable {fl : Int} {xs : List Int} {G : List RG} {k : Nat}
theorem rgL_len : (rgL xs G k).length = k := by unfold rgL; simp
theorem fl2_len : ∀ l : List RG, (l.flatMap (fun x => [x.lo, x.hi])).length = l.length * 2
  | [] => rfl
  | x :: l => by rw [List.flatMap_cons, List.length_append, fl2_len l, List.length_cons, List.length_cons, List.length_cons, List.length_nil]; omega
theorem rgV_len (h : k ≤ G.length) : (rgV xs G k).length = G.length * 2 := by unfold rgV; rw [List.length_append, fl2_len, rgL_len, List.length_replicate]; omega
theorem rgV_0 : List.replicate (G.length * 2) 0 = rgV xs G 0 := by unfold rgV rgL; simp
theorem rgV_step (h : k < G.length) : ((rgV xs G k).set (0 + k * 2) ((dimsM (fun x => x.hi) xs G).getD k 0)).set (0 + k * 2 + 1) ((dimsM (fun x => x.lo) xs G).getD k 0) = rgV xs G (k + 1) := by
  have hl : ((rgL xs G k).flatMap (fun x => [x.lo, x.hi])).length = k * 2 := by rw [fl2_len, rgL_len]
  unfold rgV
  obtain ⟨m, hm⟩ : ∃ m, G.length - k = m + 1 := ⟨G.length - k - 1, by omega⟩
  rw [Nat.zero_add, List.set_append_right _ _ (by omega), List.set_append_right _ _ (by omega), hl, Nat.sub_self, show k * 2 + 1 - k * 2 = 1 by omega, hm, show (m + 1) * 2 = m * 2 + 1 + 1 by omega, List.replicate_succ, List.replicate_succ, show G.length - (k + 1) = m by omega]
  rw [show rgL xs G (k + 1) = rgL xs G k ++ [⟨(dimsM (fun x => x.hi) xs G).getD k 0, (dimsM (fun x => x.lo) xs G).getD k 0⟩] from by unfold rgL; rw [List.range_succ, List.map_append]; rfl, List.flatMap_append, List.append_assoc]
  rfl
theorem enc_fl : ∀ l : List RG, (l.flatMap (fun x => [x.lo, x.hi])).map vint = l.flatMap RG.enc
  | [] => rfl
  | x :: l => by rw [List.flatMap_cons, List.map_append, enc_fl l]; rfl
theorem rg_row {w : World} {b : Nat} (h : Blk w b ((rgV xs G G.length).map vint)) : Row w (some ⟨b, 0, none⟩) (rgL xs G G.length).length G.length 2 ((rgL xs G G.length).flatMap RG.enc) := by
  have h2 : (rgV xs G G.length).map vint = (rgL xs G G.length).flatMap RG.enc := by unfold rgV; rw [Nat.sub_self, Nat.zero_mul, List.replicate_zero, List.append_nil, enc_fl]
  rw [h2] at h
  refine ⟨by rw [← enc_fl, List.length_map, fl2_len], by rw [rgL_len]; exact Nat.le_refl _, .inr ⟨b, 0, rfl, h.cells0⟩⟩
theorem br_e (h : ¬ mfault fl G = 0) : brightM fl G xs = (mfault fl G, []) := if_neg h
theorem br_2 (h : mfault fl G = 0) (h2 : risB xs (G.length : Int) = false) : brightM fl G xs = (2, []) := by unfold brightM; rw [if_pos h, if_neg (by rw [h2]; decide)]
theorem br_0 (h : mfault fl G = 0) (h2 : risB xs (G.length : Int) = true) : brightM fl G xs = (0, rgL xs G G.length) := by unfold brightM; rw [if_pos h, if_pos h2]
end

theorem el41 : Elem Try.prog 41 (.agg ⟨[vint 0, vint 0]⟩) 2 16 := elem_of (by kernel_rfl) rfl (by decide)
theorem bright_ret (fl : Int) (ga : Option Addr) (gc : Nat) (G : List RG) (xa : Option Addr) (xc : Nat) (xs : List Int) (w : World) (hG : Row w ga G.length gc 2 (G.flatMap RG.enc)) (hGn : G.length ≤ 2097152) (hx : Row w xa xs.length xc 1 (xs.map vint)) (hxn : xs.length ≤ 2097152) : Ret Try.prog 6 [.agg ⟨[vint fl, .slice ga G.length gc]⟩, .slice xa xs.length xc] w (fun v w' => ∃ ra rc, v = .tuple ⟨[.slice ra (brightM fl G xs).2.length rc, vint (brightM fl G xs).1]⟩ ∧ Row w' ra (brightM fl G xs).2.length rc 2 ((brightM fl G xs).2.flatMap RG.enc) ∧ Ext w w') := by
 have hB := Below.refl w.heap.size w
 have hsz : w.heap.size ≤ w.heap.size := Nat.le_refl _
 refine ret_of_runs (args := [_, _]) Try.func6 rfl (Nat.le_of_ble_eq_true rfl) (by kernel_rfl) (r_seq (r_region' (l_o (o_box rfl rfl rfl ?_))))
 intro b1 w1 hzl1 hzr1 _ hb1 hE1
 have hbs_b1 : w.heap.size ≤ b1 := Nat.le_trans hsz hzl1
 replace hB := below_ext hB hE1 hsz
 replace hsz := Nat.le_trans hsz hE1.size
 refine l_q (qas rfl rfl) (l_q (qai rfl rfl) (l_nil (r_seq (r_seq (r_region' (l_q (q_load_agg (n := 2) Try.isAgg35 Try.sizeOf35 rfl ((hb1.cells' (cs' := [_, _]) 0 2 rfl)) rfl rfl) (l_o (o_call Try.call22 rfl (mcheck_ret fl ga gc G _ (hG.below hB) (by omega)) rfl ?_))))))))
 rintro _ w2 ⟨rfl, hE2⟩
 replace hB := below_ext hB hE2 hsz
 replace hb1 := hb1.ext hE2
 replace hsz := Nat.le_trans hsz hE2.size
 refine l_q (qai rfl rfl) (l_nil (r_seq (r_region' (l_q (qmi rfl rfl) (l_q (q_neq rfl rfl rfl) (l_nil (r_cond rfl (fun hc3 => ?_) (fun hc3 => ?_))))))))
 ·
  replace hc3 := df (nt hc3)
  have hp := hc3
  refine r_seq (r_region' (l_q (qmi rfl rfl) (l_q (qas rfl rfl) (l_q (qai rfl rfl) (l_nil (r_ret_ (vs := [.slice _ _ _, .int _ _]) rfl Try.func6 rfl (.nil _) ⟨rfl, rfl, trivial⟩ ?_))))))
  exact ⟨none, 0, by rw [br_e hp]; rfl, by rw [br_e hp]; exact Row.nil _ _ _ _, Ext.of_below hB⟩
 ·
  replace hc3 := dt (nf hc3)
  have hp : mfault fl G = 0 := by simpa using hc3
  obtain ⟨⟨hf1, hf2⟩, ⟨hg0, hg8⟩, hok⟩ := mf_ok hp
  refine r_skip (r_seq (r_seq (r_region' (l_q (qms rfl rfl) (l_q (q_fieldAddr (o' := 1) rfl fld35_1 rfl) (l_q (q_load Try.isAgg31 rfl ((hb1.has (o := 1) rfl)) rfl) (l_q (q_len rfl Try.underlying31 rfl rfl) (l_o (o_call Try.call23 rfl (incr_ret _ _ xs _ _ (hx.below hB) (by omega) (by omega)) rfl ?_)))))))))
  rintro _ w4 ⟨rfl, hE4⟩
  replace hB := below_ext hB hE4 hsz
  replace hb1 := hb1.ext hE4
  replace hsz := Nat.le_trans hsz hE4.size
  refine l_q (q_not rfl rfl) (l_nil (r_forget [(1, .slice _ _ _), (2, .pointer _), (22, .bool _)] ⟨rfl, rfl, rfl, trivial⟩ (fun e5 => (r_cond rfl (fun hc6 => ?_) (fun hc6 => ?_)))))
  ·
   replace hc6 := nt hc6
   have g22 := hc6
   refine r_seq (r_region' (l_q (qas rfl rfl) (l_q (qai rfl rfl) (l_nil (r_ret_ (vs := [.slice _ _ _, .int _ _]) rfl Try.func6 rfl (.nil _) ⟨rfl, rfl, trivial⟩ ?_)))))
   exact ⟨none, 0, by rw [br_2 hp g22]; rfl, by rw [br_2 hp g22]; exact Row.nil _ _ _ _, Ext.of_below hB⟩
  ·
   replace hc6 := nf hc6
   have g22 := hc6
   have hdl : (dimsM (fun x => x.hi) xs G).length = G.length := dimsM_len
   have hdl2 : (dimsM (fun x => x.lo) xs G).length = G.length := dimsM_len
   refine r_skip (r_seq (r_draw ext_refl' ext_trans' [0, 1, 2, 4, 5, 6, 3, 7, 8, 9] [3, 7] 12 (by kernel_rfl) (by kernel_rfl) ?_))
   intro w7 _ hE7
   replace hB := below_ext hB hE7 hsz
   replace hb1 := hb1.ext hE7
   replace hsz := Nat.le_trans hsz hE7.size
   refine m_q rfl rfl (fun w' hC' => q_load_agg (n := 2) Try.isAgg35 Try.sizeOf35 rfl (((hb1.cells' (cs' := [_, _]) 0 2 rfl).ext hC')) rfl rfl) (m_q rfl rfl (fun w' hC' => q_build (v := .agg ⟨[.func (.func 25) ⟨[]⟩ ⟨[]⟩]⟩) (fun w => by kernel_rfl) rfl) (m_q rfl rfl (fun w' hC' => qms rfl rfl) (m_q rfl rfl (fun w' hC' => q_load_agg (n := 2) Try.isAgg35 Try.sizeOf35 rfl (((hb1.cells' (cs' := [_, _]) 0 2 rfl).ext hC')) rfl rfl) (m_q rfl rfl (fun w' hC' => q_build (v := .agg ⟨[.func (.func 26) ⟨[]⟩ ⟨[]⟩]⟩) (fun w => by kernel_rfl) rfl) (m_q rfl rfl (fun w' hC' => qms rfl rfl) (m_o rfl rfl (o_call Try.call24 rfl (mafter_ret fl ga gc G _ _ xs 25 (fun x => x.hi) _ (hG.below hB) (by omega) (hx.below hB) (by omega) Try.call25 (fun x w => rhigh_ret x w) (fun x hx => okRG_hi (hok x hx))) rfl ?_)))))))
   rintro _ w8 ⟨a8_0, c8_0, rfl, hr8_0, hE8⟩
   refine ⟨hE8, ?_⟩
   replace hB := below_ext hB hE8 hsz
   replace hb1 := hb1.ext hE8
   replace hsz := Nat.le_trans hsz hE8.size
   refine m_o rfl rfl (o_call Try.call24 rfl (mafter_ret fl ga gc G _ _ xs 26 (fun x => x.lo) _ (hG.below hB) (by omega) (hx.below hB) (by omega) Try.call26 (fun x w => rlow_ret x w) (fun x hx => okRG_lo (hok x hx))) rfl ?_)
   rintro _ w9 ⟨a9_0, c9_0, rfl, hr9_0, hE9⟩
   refine ⟨hE9, ?_⟩
   replace hB := below_ext hB hE9 hsz
   replace hb1 := hb1.ext hE9
   replace hr8_0 := hr8_0.ext hE9
   replace hsz := Nat.le_trans hsz hE9.size
   refine m_q rfl rfl (fun w' hC' => qas rfl rfl) (m_q rfl rfl (fun w' hC' => qas rfl rfl) (m_nil (r_forget [(7, .slice _ _ _), (8, .slice _ _ _)] ⟨rfl, rfl, trivial⟩ (fun e10 => (r_seq ?_)))))
   have hBE := Below.refl w9.heap.size w9
   have hsz_hBE : w.heap.size ≤ w9.heap.size := hsz
   have hlt_hBE_b1 := hb1.lt
   refine r_region' (l_q (qms rfl rfl) (l_q (q_len rfl Try.underlying26 rfl rfl) ?_))
   have hbl_b1 := (hb1.ext (Ext.of_below hBE)).lt
   have hszf11 := hBE.size
   refine l_o (o_makeSlice (n := (dimsM (fun x => x.hi) xs G).length) Try.underlying31 el41 (rfl) (rfl) (by omega) (by unfold maxLen; omega) rfl ?_)
   intro b12 w12 hzl12 hzr12 _ hb12 hE12 ho12
   have hne_b1_b12 : b1 ≠ b12 := by have := (hb1.ext (Ext.of_below hBE)).lt; omega
   have hbs_b12 : w.heap.size ≤ b12 := Nat.le_trans hsz hzl12
   replace hB := below_ext hB hE12 hsz
   replace hBE := below_ext hBE hE12 hBE.size
   replace hsz := Nat.le_trans hsz hE12.size
   refine l_q (qas rfl rfl) (l_nil (r_seq (r_seq ?_)))
   have hT : Blk w12 b12 ((rgV xs G 0).map vint) := by rw [← rgV_0]; rw [made_two] at hb12; rw [dimsM_len] at hb12; exact hb12
   refine r_region' (l_q (qms rfl rfl) (l_q (q_len rfl Try.underlying26 rfl rfl) (l_q (qmi rfl rfl) (l_nil (r_block (r_rounds (α := Nat) (fun k e wl => Knows e [(8, .slice a9_0 ((dimsM (fun x => x.lo) xs G).length) c9_0), (9, .slice (some ⟨b12, 0, none⟩) ((dimsM (fun x => x.hi) xs G).length) ((dimsM (fun x => x.hi) xs G).length)), (34, .slice a8_0 ((dimsM (fun x => x.hi) xs G).length) c8_0), (35, vint ((dimsM (fun x => x.hi) xs G).length : Int)), (36, vint (k : Int))] ∧ (k ≤ G.length) ∧ (Blk wl b12 ((rgV xs G k).map vint)) ∧ (Below w9.heap.size w9 wl) ∧ (w.heap.size ≤ wl.heap.size) ∧ (Below w.heap.size w wl)) (fun k => G.length - k) 0 ?_ ?_))))))
   ·
    exact ⟨⟨rfl, rfl, rfl, rfl, rfl, trivial⟩, (Nat.zero_le _), hT, hBE, hsz, hB⟩
   ·
    rintro k el13 wl13 ⟨hkn, hkk, hT, hBE, hsz, hB⟩ ih13
    obtain ⟨e13, rfl⟩ := knows_env hkn
    refine r_seq (r_region' (l_q (q_lss rfl rfl rfl) (l_nil (r_seq (r_cond rfl (fun hc14 => ?_) (fun hc14 => ?_))))))
    ·
     replace hc14 := dt hc14
     refine r_skip (r_seq (r_block (r_seq (r_region' (l_q (qmi rfl rfl) ?_)))))
     obtain ⟨b15, o15, ha15, hh15⟩ := (hr8_0.ext (Ext.of_below hBE)).at1 k ((dimsM (fun x => x.hi) xs G).getD k 0) (getD_some (by omega))
     refine l_q (q_indexAddr1 Try.underlying26 Try.sizeOf3 rfl ha15 rfl (by omega) rfl) (l_q (q_load Try.isAgg3 rfl (hh15) rfl) (l_q (qai rfl rfl) (l_q (qai rfl rfl) (l_nil (r_region' (l_q (qms rfl rfl) (l_q (qmi rfl rfl) (l_q (qmi rfl rfl) (l_q (qms rfl rfl) (l_q (qmi rfl rfl) ?_))))))))))
     obtain ⟨b16, o16, ha16, hh16⟩ := (hr9_0.ext (Ext.of_below hBE)).at1 k ((dimsM (fun x => x.lo) xs G).getD k 0) (getD_some (by omega))
     refine l_q (q_indexAddr1 Try.underlying26 Try.sizeOf3 rfl ha16 rfl (by omega) rfl) (l_q (q_load Try.isAgg3 rfl (hh16) rfl) (l_q (q_build (v := .agg ⟨[vint ((dimsM (fun x => x.hi) xs G).getD k 0), vint ((dimsM (fun x => x.lo) xs G).getD k 0)]⟩) (fun w => by kernel_rfl) rfl) (l_q (q_indexAddr Try.underlying31 Try.sizeOf41 rfl rfl rfl (by omega) rfl) (l_o (o_store2 Try.sizeOf41 rfl rfl hT (by rw [rgV_len (by omega)]; omega) rfl ?_)))))
     intro w17 hz17 hT hG17
     replace hB := below_upd hB hG17 hsz (by omega)
     replace hsz : w.heap.size ≤ w17.heap.size := by rw [hz17]; exact hsz
     replace hBE := below_upd hBE hG17 hBE.size (by omega)
     refine l_nil (r_forget [(8, .slice _ _ _), (9, .slice _ _ _), (34, .slice _ _ _), (35, .int _ _), (36, .int _ _)] ⟨rfl, rfl, rfl, rfl, rfl, trivial⟩ (fun e18 => (r_inBlock (r_region' (l_q (q_add rfl rfl (by omega) rfl) (l_q (qmi rfl rfl) (l_nil ?_)))))))
     exact ih13 (k + 1) _ _ ⟨⟨rfl, rfl, rfl, rfl, (vint_eq (by omega)), trivial⟩, (by omega), (blk_eq (rgV_step (by omega)) hT), hBE, hsz, hB⟩ (by first | omega | (dsimp only; omega))
    ·
     replace hc14 := dlt hc14
     refine r_exit rfl (r_seq (r_region' (l_q (qms rfl rfl) (l_q (qas rfl rfl) (l_q (qai rfl rfl) (l_nil (r_ret_ (vs := [.slice _ _ _, .int _ _]) rfl Try.func6 rfl (.nil _) ⟨rfl, rfl, trivial⟩ ?_)))))))
     have hkk : k = G.length := by omega
     subst hkk
     exact ⟨some ⟨b12, 0, none⟩, G.length, by rw [br_0 hp g22, dimsM_len]; simp only [rgL_len]; rfl, by rw [br_0 hp g22]; exact rg_row hT, Ext.of_below hB⟩
end Go.Proofs.Ytbikicakdkbcgaa
