/- Contracts. -/
import Derived.Test.YtbikicakdkbcgaaR4
set_option linter.unusedVariables false
set_option linter.unusedSimpArgs false
namespace Go.Proofs.Ytbikicakdkbcgaa
open Go Go.RowKit Go.Gv Go.Fl

def okRG (x : RG) : Bool := decide (0 ≤ x.lo) && (decide (x.lo ≤ x.hi) && decide (x.hi ≤ 100))
def mfault (fl : Int) (G : List RG) : Int := if 8 < G.length then 3 else if (0 ≤ fl ∧ fl ≤ 100) ∧ 0 < G.length ∧ G.all okRG = true then 0 else 1
section
variable {fl : Int} {G : List RG}
theorem mf_3 (h : 8 < G.length) : mfault fl G = 3 := if_pos h
theorem mf_1 (h : G.length ≤ 8) (h1 : ¬ ((0 ≤ fl ∧ fl ≤ 100) ∧ 0 < G.length ∧ G.all okRG = true)) : mfault fl G = 1 := by unfold mfault; rw [if_neg (by omega), if_neg h1]
theorem mf_0 (h : G.length ≤ 8) (h1 : (0 ≤ fl ∧ fl ≤ 100) ∧ 0 < G.length ∧ G.all okRG = true) : mfault fl G = 0 := by unfold mfault; rw [if_neg (by omega), if_pos h1]
end
def nowM (pk : RG → Int) (xs : List Int) (G : List RG) : Nat → Int
  | 0 => 100
  | k + 1 => max 0 ((if xs.any (fun x => decide ((k : Int) = x)) = true then 100 else nowM pk xs G k) - pk (G.getD k rg0))
def dimsM (pk : RG → Int) (xs : List Int) (G : List RG) : List Int := (List.range G.length).map (fun k => nowM pk xs G (k + 1))
def dimV (pk : RG → Int) (xs : List Int) (G : List RG) (k : Nat) : List Int := (List.range k).map (fun k => nowM pk xs G (k + 1)) ++ List.replicate (G.length - k) 0
section
variable {pk : RG → Int} {xs : List Int} {G : List RG} {k : Nat}
theorem dimV_len (h : k ≤ G.length) : (dimV pk xs G k).length = G.length := by unfold dimV; simp; omega
theorem dimV_0 : List.replicate G.length 0 = dimV pk xs G 0 := by unfold dimV; simp
theorem dimV_step (h : k < G.length) : (dimV pk xs G k).set (0 + k) (nowM pk xs G (k + 1)) = dimV pk xs G (k + 1) := by
  unfold dimV
  rw [Nat.zero_add, List.set_append_right _ _ (by simp), List.length_map, List.length_range, Nat.sub_self, List.range_succ, List.map_append, List.append_assoc]
  obtain ⟨m, hm⟩ : ∃ m, G.length - k = m + 1 := ⟨G.length - k - 1, by omega⟩
  rw [hm, List.replicate_succ, show G.length - (k + 1) = m by omega]
  rfl
theorem dimV_all : dimV pk xs G G.length = dimsM pk xs G := by unfold dimV dimsM; simp
theorem dimsM_len : (dimsM pk xs G).length = G.length := by unfold dimsM; simp
theorem okRG_hi {x : RG} (h : okRG x = true) : 0 ≤ x.hi ∧ x.hi ≤ 100 := by unfold okRG at h; simp only [Bool.and_eq_true, decide_eq_true_eq] at h; omega
theorem okRG_lo {x : RG} (h : okRG x = true) : 0 ≤ x.lo ∧ x.lo ≤ 100 := by unfold okRG at h; simp only [Bool.and_eq_true, decide_eq_true_eq] at h; omega
theorem now_bnd (h : ∀ x ∈ G, 0 ≤ pk x ∧ pk x ≤ 100) : 0 ≤ nowM pk xs G k ∧ nowM pk xs G k ≤ 100 ∨ G.length < k := by
  induction k with
  | zero => left; show (0 : Int) ≤ 100 ∧ (100 : Int) ≤ 100; decide
  | succ k ih =>
    by_cases hk : k < G.length
    · left
      have h1 := h _ (getD_lt (d := rg0) hk)
      rcases ih with h2 | h2
      · rw [nowM]
        split <;> omega
      · omega
    · right; omega
end

theorem fld41_0 (w : World) (b o : Nat) : (Instr.fieldAt 41 (ptr b o) 0).run Try.prog w = .ok (ptr b (o + 0)) w := by
  simp [Instr.fieldAt, run_underlying Try.underlying41, fieldPlace, Instr.sureAddr, Try.sizeOf3, Addr.add_lit]
theorem fld41_1 (w : World) (b o : Nat) : (Instr.fieldAt 41 (ptr b o) 1).run Try.prog w = .ok (ptr b (o + 1)) w := by
  simp [Instr.fieldAt, run_underlying Try.underlying41, fieldPlace, Instr.sureAddr, Try.sizeOf3, Addr.add_lit]
theorem fld35_1 (w : World) (b o : Nat) : (Instr.fieldAt 35 (ptr b o) 1).run Try.prog w = .ok (ptr b (o + 1)) w := by
  simp [Instr.fieldAt, run_underlying Try.underlying35, fieldPlace, Instr.sureAddr, Try.sizeOf31, Addr.add_lit]
theorem fld35_0 (w : World) (b o : Nat) : (Instr.fieldAt 35 (ptr b o) 0).run Try.prog w = .ok (ptr b (o + 0)) w := by
  simp [Instr.fieldAt, run_underlying Try.underlying35, fieldPlace, Instr.sureAddr, Try.sizeOf3, Addr.add_lit]
theorem fld73_0 (w : World) (b o : Nat) : (Instr.fieldAt 73 (ptr b o) 0).run Try.prog w = .ok (ptr b (o + 0)) w := by
  simp [Instr.fieldAt, run_underlying Try.underlying73, fieldPlace, Instr.sureAddr, Try.sizeOf70, Addr.add_lit]
theorem rvalid_ret (x : RG) (w : World) : Ret Try.prog 47 [.agg ⟨[vint x.lo, vint x.hi]⟩] w (fun v w' => v = .bool (okRG x) ∧ Ext w w') := by
 have hB := Below.refl w.heap.size w
 have hsz : w.heap.size ≤ w.heap.size := Nat.le_refl _
 refine ret_of_runs (args := [_]) Try.func47 rfl (Nat.le_of_ble_eq_true rfl) (by kernel_rfl) (r_seq (r_region' (l_o (o_box rfl rfl rfl ?_))))
 intro b1 w1 hzl1 hzr1 _ hb1 hE1
 have hbs_b1 : w.heap.size ≤ b1 := Nat.le_trans hsz hzl1
 replace hB := below_ext hB hE1 hsz
 replace hsz := Nat.le_trans hsz hE1.size
 refine l_q (qab rfl rfl) (l_nil (r_seq (r_region' (l_q (q_fieldAddr (o' := 0) rfl fld41_0 rfl) (l_q (q_load Try.isAgg3 rfl ((hb1.has (o := 0) rfl)) rfl) (l_q (q_leq rfl rfl rfl) (l_q (qmb rfl rfl) (l_part 6 rfl (fun hc2 => ?_) (fun hc2 => ?_)))))))))
 ·
  replace hc2 := dt hc2
  have g6 := hc2
  refine l_q (q_fieldAddr (o' := 0) rfl fld41_0 rfl) (l_q (q_load Try.isAgg3 rfl ((hb1.has (o := 0) rfl)) rfl) (l_q (q_fieldAddr (o' := 1) rfl fld41_1 rfl) (l_q (q_load Try.isAgg3 rfl ((hb1.has (o := 1) rfl)) rfl) (l_q (q_leq rfl rfl rfl) (l_q (q_pick_t (v := .bool _) rfl rfl rfl) (l_q (qmb rfl rfl) (l_part 13 rfl (fun hc3 => ?_) (fun hc3 => ?_))))))))
  ·
   replace hc3 := dt hc3
   have g13 := hc3
   refine l_q (q_fieldAddr (o' := 1) rfl fld41_1 rfl) (l_q (q_load Try.isAgg3 rfl ((hb1.has (o := 1) rfl)) rfl) (l_q (q_leq rfl rfl rfl) (l_q (q_pick_t (v := .bool _) rfl rfl rfl) (l_q (qab rfl rfl) (l_nil (r_forget [(2, .bool _)] ⟨rfl, trivial⟩ (fun e4 => (r_ret_ (vs := [.bool _]) rfl Try.func47 rfl (.nil _) ⟨rfl, trivial⟩ ?_))))))))
   exact ⟨vbool_eq (by unfold okRG; simp_all <;> omega), Ext.of_below hB⟩
  ·
   replace hc3 := dle hc3
   have g13 := hc3
   refine l_q (q_skip rfl) (l_q (q_skip rfl) (l_q (q_skip rfl) (l_q (q_pick_f (v := .bool _) rfl rfl rfl) (l_q (qab rfl rfl) (l_nil (r_forget [(2, .bool _)] ⟨rfl, trivial⟩ (fun e5 => (r_ret_ (vs := [.bool _]) rfl Try.func47 rfl (.nil _) ⟨rfl, trivial⟩ ?_))))))))
   exact ⟨vbool_eq (by unfold okRG; simp_all <;> omega), Ext.of_below hB⟩
 ·
  replace hc2 := dle hc2
  have g6 := hc2
  refine l_q (q_skip rfl) (l_q (q_skip rfl) (l_q (q_skip rfl) (l_q (q_skip rfl) (l_q (q_skip rfl) (l_q (q_pick_f (v := .bool _) rfl rfl rfl) (l_q (qmb rfl rfl) (l_q (q_skip rfl) (l_q (q_skip rfl) (l_q (q_skip rfl) (l_q (q_pick_f (v := .bool _) rfl rfl rfl) (l_q (qab rfl rfl) (l_nil (r_forget [(2, .bool _)] ⟨rfl, trivial⟩ (fun e6 => (r_ret_ (vs := [.bool _]) rfl Try.func47 rfl (.nil _) ⟨rfl, trivial⟩ ?_)))))))))))))))
  exact ⟨vbool_eq (by unfold okRG; simp_all <;> omega), Ext.of_below hB⟩
theorem rhigh_ret (x : RG) (w : World) : Ret Try.prog 25 [.agg ⟨[vint x.lo, vint x.hi]⟩] w (fun v w' => v = vint x.hi ∧ Ext w w') := by
 have hB := Below.refl w.heap.size w
 have hsz : w.heap.size ≤ w.heap.size := Nat.le_refl _
 refine ret_of_runs (args := [_]) Try.func25 rfl (Nat.le_of_ble_eq_true rfl) (by kernel_rfl) (r_seq (r_region' (l_o (o_box rfl rfl rfl ?_))))
 intro b1 w1 hzl1 hzr1 _ hb1 hE1
 have hbs_b1 : w.heap.size ≤ b1 := Nat.le_trans hsz hzl1
 replace hB := below_ext hB hE1 hsz
 replace hsz := Nat.le_trans hsz hE1.size
 refine l_q (qai rfl rfl) (l_nil (r_seq (r_region' (l_q (q_fieldAddr (o' := 1) rfl fld41_1 rfl) (l_q (q_load Try.isAgg3 rfl ((hb1.has (o := 1) rfl)) rfl) (l_q (qai rfl rfl) (l_nil (r_ret_ (vs := [.int _ _]) rfl Try.func25 rfl (.nil _) ⟨rfl, trivial⟩ ?_))))))))
 exact ⟨rfl, Ext.of_below hB⟩
theorem rlow_ret (x : RG) (w : World) : Ret Try.prog 26 [.agg ⟨[vint x.lo, vint x.hi]⟩] w (fun v w' => v = vint x.lo ∧ Ext w w') := by
 have hB := Below.refl w.heap.size w
 have hsz : w.heap.size ≤ w.heap.size := Nat.le_refl _
 refine ret_of_runs (args := [_]) Try.func26 rfl (Nat.le_of_ble_eq_true rfl) (by kernel_rfl) (r_seq (r_region' (l_o (o_box rfl rfl rfl ?_))))
 intro b1 w1 hzl1 hzr1 _ hb1 hE1
 have hbs_b1 : w.heap.size ≤ b1 := Nat.le_trans hsz hzl1
 replace hB := below_ext hB hE1 hsz
 replace hsz := Nat.le_trans hsz hE1.size
 refine l_q (qai rfl rfl) (l_nil (r_seq (r_region' (l_q (q_fieldAddr (o' := 0) rfl fld41_0 rfl) (l_q (q_load Try.isAgg3 rfl ((hb1.has (o := 0) rfl)) rfl) (l_q (qai rfl rfl) (l_nil (r_ret_ (vs := [.int _ _]) rfl Try.func26 rfl (.nil _) ⟨rfl, trivial⟩ ?_))))))))
 exact ⟨rfl, Ext.of_below hB⟩
theorem mcheck_ret (fl : Int) (ga : Option Addr) (gc : Nat) (G : List RG) (w : World) (hG : Row w ga G.length gc 2 (G.flatMap RG.enc)) (hGn : G.length ≤ 2097152) : Ret Try.prog 22 [.agg ⟨[vint fl, .slice ga G.length gc]⟩] w (fun v w' => v = vint (mfault fl G) ∧ Ext w w') := by
 have hB := Below.refl w.heap.size w
 have hsz : w.heap.size ≤ w.heap.size := Nat.le_refl _
 refine ret_of_runs (args := [_]) Try.func22 rfl (Nat.le_of_ble_eq_true rfl) (by kernel_rfl) (r_seq (r_region' (l_o (o_box rfl rfl rfl ?_))))
 intro b1 w1 hzl1 hzr1 _ hb1 hE1
 have hbs_b1 : w.heap.size ≤ b1 := Nat.le_trans hsz hzl1
 replace hB := below_ext hB hE1 hsz
 replace hsz := Nat.le_trans hsz hE1.size
 refine l_q (qai rfl rfl) (l_nil (r_seq (r_block (r_seq (r_region' (l_q (q_fieldAddr (o' := 1) rfl fld35_1 rfl) (l_q (q_load Try.isAgg31 rfl ((hb1.has (o := 1) rfl)) rfl) (l_q (q_len rfl Try.underlying31 rfl rfl) (l_q (q_gtr rfl rfl rfl) (l_q (qab rfl rfl) (l_nil (r_cond rfl (fun hc2 => ?_) (fun hc2 => ?_)))))))))))))
 ·
  replace hc2 := dt hc2
  have g3 := hc2
  refine r_seq (r_region' (l_q (qai rfl rfl) (l_nil (r_ret_ (vs := [.int _ _]) rfl Try.func22 rfl (.nil _) ⟨rfl, trivial⟩ ?_))))
  exact ⟨vint_eq (mf_3 (by omega)).symm, Ext.of_below hB⟩
 ·
  replace hc2 := dlt hc2
  have g3 := hc2
  refine r_seq (r_region' (l_q (q_fieldAddr (o' := 0) rfl fld35_0 rfl) (l_q (q_load Try.isAgg3 rfl ((hb1.has (o := 0) rfl)) rfl) (l_o (o_call Try.call39 rfl (rwithin_ret _ _ _ _) rfl ?_)))))
  rintro _ w3 ⟨rfl, rfl⟩
  refine l_q (q_not rfl rfl) (l_q (qmb rfl rfl) (l_part 13 rfl (fun hc4 => ?_) (fun hc4 => ?_)))
  ·
   replace hc4 := b2f (nt hc4)
   have g13 := hc4
   refine l_q (q_skip rfl) (l_q (q_skip rfl) (l_q (q_skip rfl) (l_q (q_skip rfl) (l_q (q_pick_t (v := .bool _) rfl rfl rfl) (l_q (qmb rfl rfl) (l_q (q_skip rfl) (l_q (q_skip rfl) (l_q (q_skip rfl) (l_q (q_skip rfl) (l_q (q_pick_t (v := .bool _) rfl rfl rfl) (l_q (qab rfl rfl) (l_nil (r_forget [(8, .bool _)] ⟨rfl, trivial⟩ (fun e5 => (r_cond_t rfl (r_seq (r_region' (l_q (qai rfl rfl) (l_nil (r_ret_ (vs := [.int _ _]) rfl Try.func22 rfl (.nil _) ⟨rfl, trivial⟩ ?_))))))))))))))))))))
   exact ⟨vint_eq (mf_1 (by omega) (fun ⟨h1, h2, h3⟩ => by first | omega | exact absurd (h3.symm.trans g8) (by decide) | exact absurd (h3.symm.trans g19) (by decide) | (simp_all; done))).symm, Ext.of_below hB⟩
  ·
   replace hc4 := b2t (nf hc4)
   have g13 := hc4
   refine l_q (q_fieldAddr (o' := 1) rfl fld35_1 rfl) (l_q (q_load Try.isAgg31 rfl ((hb1.has (o := 1) rfl)) rfl) (l_q (q_len rfl Try.underlying31 rfl rfl) (l_q (q_eql rfl rfl rfl) (l_q (q_pick_f (v := .bool _) rfl rfl rfl) (l_q (qmb rfl rfl) (l_part 19 rfl (fun hc6 => ?_) (fun hc6 => ?_)))))))
   ·
    replace hc6 := dt hc6
    have g19 := hc6
    refine l_q (q_skip rfl) (l_q (q_skip rfl) (l_q (q_skip rfl) (l_q (q_skip rfl) (l_q (q_pick_t (v := .bool _) rfl rfl rfl) (l_q (qab rfl rfl) (l_nil (r_forget [(8, .bool _)] ⟨rfl, trivial⟩ (fun e7 => (r_cond_t rfl (r_seq (r_region' (l_q (qai rfl rfl) (l_nil (r_ret_ (vs := [.int _ _]) rfl Try.func22 rfl (.nil _) ⟨rfl, trivial⟩ ?_))))))))))))))
    exact ⟨vint_eq (mf_1 (by omega) (fun ⟨h1, h2, h3⟩ => by first | omega | exact absurd (h3.symm.trans g8) (by decide) | exact absurd (h3.symm.trans g19) (by decide) | (simp_all; done))).symm, Ext.of_below hB⟩
   ·
    replace hc6 := df hc6
    have g19 := hc6
    refine l_q (q_fieldAddr (o' := 1) rfl fld35_1 rfl) (l_q (q_load Try.isAgg31 rfl ((hb1.has (o := 1) rfl)) rfl) (l_o (o_call Try.call46 rfl (all_rg_ret _ _ G 47 _ _ okRG _ (hG.below hB) Try.call47 (fun w' hw x hx => rvalid_ret x _) (by omega)) rfl ?_)))
    rintro _ w8 ⟨rfl, hE8⟩
    replace hB := below_ext hB hE8 hsz
    replace hsz := Nat.le_trans hsz hE8.size
    refine l_q (q_not rfl rfl) (l_q (q_pick_f (v := .bool _) rfl rfl rfl) (l_q (qab rfl rfl) (l_nil (r_forget [(8, .bool _)] ⟨rfl, trivial⟩ (fun e9 => (r_cond rfl (fun hc10 => ?_) (fun hc10 => ?_)))))))
    ·
     replace hc10 := nt hc10
     have g8 := hc10
     refine r_seq (r_region' (l_q (qai rfl rfl) (l_nil (r_ret_ (vs := [.int _ _]) rfl Try.func22 rfl (.nil _) ⟨rfl, trivial⟩ ?_))))
     exact ⟨vint_eq (mf_1 (by omega) (fun ⟨h1, h2, h3⟩ => by first | omega | exact absurd (h3.symm.trans g8) (by decide) | exact absurd (h3.symm.trans g19) (by decide) | (simp_all; done))).symm, Ext.of_below hB⟩
    ·
     replace hc10 := nf hc10
     have g8 := hc10
     refine r_skip (r_inBlock (r_seq (r_region' (l_q (qai rfl rfl) (l_nil (r_ret_ (vs := [.int _ _]) rfl Try.func22 rfl (.nil _) ⟨rfl, trivial⟩ ?_))))))
     exact ⟨vint_eq (mf_0 (by omega) ⟨by omega, by omega, by simpa using g8⟩).symm, Ext.of_below hB⟩
theorem index_int_ret (xa : Option Addr) (xc : Nat) (xs : List Int) (s : Int) (w : World) (hx : Row w xa xs.length xc 1 (xs.map vint)) (hxn : xs.length ≤ 2097152) : Ret Try.prog 70 [.slice xa xs.length xc, vint s] w (fun v w' => v = vint (idxI (fun i => decide (s = xs.getD i 0)) xs.length) ∧ Ext w w') := by
 have hB := Below.refl w.heap.size w
 have hsz : w.heap.size ≤ w.heap.size := Nat.le_refl _
 refine ret_of_runs (args := [_, _]) Try.func70 rfl (Nat.le_of_ble_eq_true rfl) (by kernel_rfl) (r_seq (r_region' (l_q (qai rfl rfl) (l_nil (r_seq (r_seq (r_region' (l_q (qms rfl rfl) (l_q (q_len rfl Try.underlying26 rfl rfl) (l_q (qmi rfl rfl) (l_nil (r_block (r_rounds (α := Nat) (fun k e wl => Knows e [(0, .slice xa xs.length xc), (1, vint s), (7, vint (xs.length : Int)), (8, vint (k : Int))] ∧ (k ≤ xs.length) ∧ (∀ i, i < k → (decide (s = xs.getD i 0)) = false) ∧ (w.heap.size ≤ wl.heap.size) ∧ (Below w.heap.size w wl)) (fun k => xs.length - k) 0 ?_ ?_)))))))))))))
 ·
  exact ⟨⟨rfl, rfl, rfl, rfl, trivial⟩, (Nat.zero_le _), (fun i hi => absurd hi (Nat.not_lt_zero _)), hsz, hB⟩
 ·
  rintro k el1 wl1 ⟨hkn, hkk, hno, hsz, hB⟩ ih1
  obtain ⟨e1, rfl⟩ := knows_env hkn
  refine r_seq (r_region' (l_q (q_lss rfl rfl rfl) (l_nil (r_seq (r_cond rfl (fun hc2 => ?_) (fun hc2 => ?_))))))
  ·
   replace hc2 := dt hc2
   refine r_skip (r_seq (r_block (r_seq (r_region' (l_q (qmi rfl rfl) (l_q (qai rfl rfl) (l_nil (r_seq (r_region' (l_q (qmi rfl rfl) (l_q (qms rfl rfl) (l_q (qmi rfl rfl) ?_))))))))))))
   obtain ⟨b3, o3, ha3, hh3⟩ := (hx.below hB).at1 k ((xs).getD k 0) (getD_some (by omega))
   refine l_q (q_indexAddr1 Try.underlying26 Try.sizeOf3 rfl ha3 rfl (by omega) rfl) (l_q (q_load Try.isAgg3 rfl (hh3) rfl) (l_q (q_eql rfl rfl rfl) (l_nil (r_cond rfl (fun hc4 => ?_) (fun hc4 => ?_)))))
   ·
    replace hc4 := dt hc4
    have heq := hc4
    refine r_seq (r_region' (l_q (qmi rfl rfl) (l_q (qai rfl rfl) (l_nil (r_forget [(4, .int _ _)] ⟨rfl, trivial⟩ (fun e5 => (r_ret_ (vs := [.int _ _]) rfl Try.func70 rfl (.nil _) ⟨rfl, trivial⟩ ?_)))))))
    exact ⟨vint_eq (idxI_found (p := fun i => decide (s = xs.getD i 0)) (by omega) (decide_eq_true heq) hno).symm, Ext.of_below hB⟩
   ·
    replace hc4 := df hc4
    have hne := hc4
    refine r_skip (r_inBlock (r_region' (l_q (q_add rfl rfl (by omega) rfl) (l_q (qmi rfl rfl) (l_nil (r_forget [(0, .slice _ _ _), (1, .int _ _), (7, .int _ _), (8, .int _ _)] ⟨rfl, rfl, rfl, rfl, trivial⟩ (fun e6 => ?_)))))))
    exact ih1 (k + 1) _ _ ⟨⟨rfl, rfl, rfl, by first | rfl | exact vint_eq (by omega), trivial⟩, (by omega), (fun i hi => by rcases Nat.lt_succ_iff_lt_or_eq.1 hi with h | h; exact hno i h; subst h; exact decide_eq_false hne), hsz, hB⟩ (by first | omega | (dsimp only; omega))
  ·
   replace hc2 := dlt hc2
   refine r_exit rfl (r_seq (r_region' (l_q (qai rfl rfl) (l_nil (r_ret_ (vs := [.int _ _]) rfl Try.func70 rfl (.nil _) ⟨rfl, trivial⟩ ?_)))))
   exact ⟨vint_eq (idxI_none (p := fun i => decide (s = xs.getD i 0)) (fun i hi => hno i (by omega))).symm, Ext.of_below hB⟩
theorem contains_int_ret (xa : Option Addr) (xc : Nat) (xs : List Int) (s : Int) (w : World) (hx : Row w xa xs.length xc 1 (xs.map vint)) (hxn : xs.length ≤ 2097152) : Ret Try.prog 49 [.slice xa xs.length xc, vint s] w (fun v w' => v = .bool (xs.any (fun x => decide (s = x))) ∧ Ext w w') := by
 have hB := Below.refl w.heap.size w
 have hsz : w.heap.size ≤ w.heap.size := Nat.le_refl _
 refine ret_of_runs (args := [_, _]) Try.func49 rfl (Nat.le_of_ble_eq_true rfl) (by kernel_rfl) (r_seq (r_region' (l_q (qab rfl rfl) (l_nil (r_seq (r_region' (l_q (qms rfl rfl) (l_q (qmi rfl rfl) (l_o (o_call Try.call70 rfl (index_int_ret _ _ xs s _ (hx.below hB) (by omega)) rfl ?_))))))))))
 rintro _ w1 ⟨rfl, hE1⟩
 replace hB := below_ext hB hE1 hsz
 replace hsz := Nat.le_trans hsz hE1.size
 refine l_q (q_geq rfl rfl rfl) (l_q (qab rfl rfl) (l_nil (r_ret_ (vs := [.bool _]) rfl Try.func49 rfl (.nil _) ⟨rfl, trivial⟩ ?_)))
 exact ⟨vbool_eq (by rw [idxI_nonneg, range_any xs 0 (fun x => decide (s = x))]), Ext.of_below hB⟩
theorem mafter_ret (fl : Int) (ga : Option Addr) (gc : Nat) (G : List RG) (xa : Option Addr) (xc : Nat) (xs : List Int) (g : FuncId) (pk : RG → Int) (w : World) (hG : Row w ga G.length gc 2 (G.flatMap RG.enc)) (hGn : G.length ≤ 2097152) (hx : Row w xa xs.length xc 1 (xs.map vint)) (hxn : xs.length ≤ 2097152) (hin : ∀ args w, (callFunc g args).run Try.prog w = .ok (.enter g args) w) (hg : ∀ (x : RG) (w : World), Ret Try.prog g [.agg ⟨[vint x.lo, vint x.hi]⟩] w (fun v w' => v = vint (pk x) ∧ Ext w w')) (hpk : ∀ x ∈ G, 0 ≤ pk x ∧ pk x ≤ 100) : Ret Try.prog 24 [.agg ⟨[vint fl, .slice ga G.length gc]⟩, .agg ⟨[.func (.func g) ⟨[]⟩ ⟨[]⟩]⟩, .slice xa xs.length xc] w (fun v w' => ∃ ra0 rc0, v = .slice ra0 (dimsM pk xs G).length rc0 ∧ Row w' ra0 (dimsM pk xs G).length rc0 1 ((dimsM pk xs G).map vint) ∧ Ext w w') := by
 have hB := Below.refl w.heap.size w
 have hsz : w.heap.size ≤ w.heap.size := Nat.le_refl _
 refine ret_of_runs (args := [_, _, _]) Try.func24 rfl (Nat.le_of_ble_eq_true rfl) (by kernel_rfl) (r_seq (r_region' (l_o (o_box rfl rfl rfl ?_))))
 intro b1 w1 hzl1 hzr1 _ hb1 hE1
 have hbs_b1 : w.heap.size ≤ b1 := Nat.le_trans hsz hzl1
 replace hB := below_ext hB hE1 hsz
 replace hsz := Nat.le_trans hsz hE1.size
 refine l_o (o_box rfl rfl rfl ?_)
 intro b2 w2 hzl2 hzr2 _ hb2 hE2
 have hne_b1_b2 : b1 ≠ b2 := by have := hb1.lt; omega
 have hbs_b2 : w.heap.size ≤ b2 := Nat.le_trans hsz hzl2
 replace hB := below_ext hB hE2 hsz
 replace hb1 := hb1.ext hE2
 replace hsz := Nat.le_trans hsz hE2.size
 refine l_q (qas rfl rfl) (l_nil (r_seq (r_region' (l_q (q_fieldAddr (o' := 1) rfl fld35_1 rfl) (l_q (q_load Try.isAgg31 rfl ((hb1.has (o := 1) rfl)) rfl) (l_q (q_len rfl Try.underlying31 rfl rfl) (l_o (o_makeSlice (n := G.length) Try.underlying26 el3 (rfl) (rfl) (by omega) (by unfold maxLen; omega) rfl ?_))))))))
 intro b3 w3 hzl3 hzr3 _ hb3 hE3 ho3
 rw [made_one _ _ rfl] at hb3 ho3
 have hne_b1_b3 : b1 ≠ b3 := by have := hb1.lt; omega
 have hne_b2_b3 : b2 ≠ b3 := by have := hb2.lt; omega
 have hbs_b3 : w.heap.size ≤ b3 := Nat.le_trans hsz hzl3
 replace hB := below_ext hB hE3 hsz
 replace hb1 := hb1.ext hE3
 replace hb2 := hb2.ext hE3
 replace hsz := Nat.le_trans hsz hE3.size
 refine l_q (qas rfl rfl) (l_nil (r_seq (r_region' (l_q (qai rfl rfl) (l_nil (r_seq (r_seq ?_)))))))
 have hT : Blk w3 b3 ((dimV pk xs G 0).map vint) := by rw [← dimV_0, List.map_replicate]; exact hb3
 refine r_region' (l_q (q_fieldAddr (o' := 1) rfl fld35_1 rfl) (l_q (q_load Try.isAgg31 rfl ((hb1.has (o := 1) rfl)) rfl) (l_q (q_len rfl Try.underlying31 rfl rfl) (l_q (qmi rfl rfl) (l_nil (r_block (r_rounds (α := Nat) (fun k e wl => Knows e [(2, .slice xa xs.length xc), (4, ptr b2 0), (7, .slice (some ⟨b3, 0, none⟩) G.length G.length), (8, vint (nowM pk xs G k)), (16, .slice ga G.length gc), (17, vint (G.length : Int)), (18, vint (k : Int))] ∧ (k ≤ G.length) ∧ (Blk wl b3 ((dimV pk xs G k).map vint)) ∧ (Blk wl b1 [vint fl, .slice ga G.length gc]) ∧ (Blk wl b2 [.func (.func g) ⟨[]⟩ ⟨[]⟩]) ∧ (w.heap.size ≤ wl.heap.size) ∧ (Below w.heap.size w wl)) (fun k => G.length - k) 0 ?_ ?_)))))))
 ·
  exact ⟨⟨rfl, rfl, rfl, rfl, rfl, rfl, rfl, trivial⟩, (Nat.zero_le _), hT, hb1, hb2, hsz, hB⟩
 ·
  rintro k el4 wl4 ⟨hkn, hkk, hT, hb1, hb2, hsz, hB⟩ ih4
  obtain ⟨e4, rfl⟩ := knows_env hkn
  refine r_seq (r_region' (l_q (q_lss rfl rfl rfl) (l_nil (r_seq (r_cond rfl (fun hc5 => ?_) (fun hc5 => ?_))))))
  ·
   replace hc5 := dt hc5
   have hkG : k < G.length := by omega
   have hpx := hpk _ (getD_lt (l := G) (d := rg0) hkG)
   have hnb := now_bnd (xs := xs) (k := k) hpk
   refine r_skip (r_seq (r_block (r_seq (r_region' (l_q (qmi rfl rfl) ?_)))))
   obtain ⟨b6, o6, ha6, hh6⟩ := (hG.below hB).at (by decide) k (by omega)
   refine l_q (q_indexAddr Try.underlying31 Try.sizeOf41 rfl ha6 rfl (by omega) rfl) (l_q (q_load_agg (cs := [vint (((G).getD k rg0).lo), vint (((G).getD k rg0).hi)]) (n := 2) Try.isAgg41 Try.sizeOf41 rfl ((cells_cast (wide_at RG.len rg0 _ _ (by omega)) hh6)) rfl rfl) (l_o (o_alloc Try.zeroValue41 rfl rfl ?_)))
   intro b7 w7 hzl7 hzr7 _ hb7 hE7
   have hne_b1_b7 : b1 ≠ b7 := by have := hb1.lt; omega
   have hne_b2_b7 : b2 ≠ b7 := by have := hb2.lt; omega
   have hne_b3_b7 : b3 ≠ b7 := by have := hT.lt; omega
   have hbs_b7 : w.heap.size ≤ b7 := Nat.le_trans hsz hzl7
   replace hB := below_ext hB hE7 hsz
   replace hb1 := hb1.ext hE7
   replace hb2 := hb2.ext hE7
   replace hT := hT.ext hE7
   replace hsz := Nat.le_trans hsz hE7.size
   refine l_q (qai rfl rfl) (l_o (o_store (vs := [vint (((G).getD k rg0).lo), vint (((G).getD k rg0).hi)]) (cs' := [vint (((G).getD k rg0).lo), vint (((G).getD k rg0).hi)]) Try.sizeOf41 rfl rfl rfl rfl hb7 (Nat.le_of_ble_eq_true rfl) rfl rfl ?_))
   intro w8 hz8 hb7 hG8
   replace hB := below_upd hB hG8 hsz (by omega)
   replace hsz : w.heap.size ≤ w8.heap.size := by rw [hz8]; exact hsz
   replace hb1 := hb1.upd hG8 (by omega)
   replace hb2 := hb2.upd hG8 (by omega)
   replace hT := hT.upd hG8 (by omega)
   refine l_nil (r_seq (r_seq (r_region' (l_q (qms rfl rfl) (l_q (qmi rfl rfl) (l_o (o_call Try.call49 rfl (contains_int_ret _ _ xs (k : Int) _ (hx.below hB) (by omega)) rfl ?_)))))))
   rintro _ w9 ⟨rfl, hE9⟩
   replace hB := below_ext hB hE9 hsz
   replace hb1 := hb1.ext hE9
   replace hb2 := hb2.ext hE9
   replace hT := hT.ext hE9
   replace hb7 := hb7.ext hE9
   replace hsz := Nat.le_trans hsz hE9.size
   refine l_nil (r_cond rfl (fun hc10 => ?_) (fun hc10 => ?_))
   ·
    have g25 := hc10
    refine r_region' (l_q (qai rfl rfl) (l_nil (r_seq (r_region' (l_q (qmi rfl rfl) (l_q (q_fieldAddr (o' := 0) rfl fld73_0 rfl) (l_q (q_load Try.isAgg70 rfl ((hb2.has (o := 0) rfl)) rfl) (l_q (q_load_agg (n := 2) Try.isAgg41 Try.sizeOf41 rfl ((hb7.cells' (cs' := [_, _]) 0 2 rfl)) rfl rfl) (l_o (o_callv (f := g) (fst := []) (cap := []) rfl hin rfl (hg (G.getD k rg0) _) rfl ?_))))))))))
    rintro _ w11 ⟨rfl, hE11⟩
    replace hB := below_ext hB hE11 hsz
    replace hb1 := hb1.ext hE11
    replace hb2 := hb2.ext hE11
    replace hT := hT.ext hE11
    replace hb7 := hb7.ext hE11
    replace hsz := Nat.le_trans hsz hE11.size
    refine l_q (q_sub rfl rfl (by omega) rfl) (l_q (q_max rfl rfl rfl) (l_q (qai rfl rfl) (l_nil (r_forget [(2, .slice _ _ _), (4, .pointer _), (7, .slice _ _ _), (8, .int _ _), (9, .int _ _), (16, .slice _ _ _), (17, .int _ _), (18, .int _ _)] ⟨rfl, rfl, rfl, rfl, rfl, rfl, rfl, rfl, trivial⟩ (fun e12 => ?_)))))
    have hnw : max 0 (100 - (pk (G.getD k rg0))) = nowM pk xs G (k + 1) := by rw [nowM]; first | rw [if_pos g25] | rw [if_neg (by rw [g25]; decide)]
    refine r_forget [(2, .slice _ _ _), (4, .pointer _), (7, .slice _ _ _), (8, vint (nowM pk xs G (k + 1))), (9, .int _ _), (16, .slice _ _ _), (17, .int _ _), (18, .int _ _)] ⟨rfl, rfl, rfl, vint_eq hnw, rfl, rfl, rfl, rfl, trivial⟩ (fun e13 => (r_region' (l_q (qms rfl rfl) (l_q (qmi rfl rfl) (l_q (qmi rfl rfl) (l_q (q_indexAddr1 Try.underlying26 Try.sizeOf3 rfl rfl rfl (by omega) rfl) (l_o (o_store1 (v := vint (nowM pk xs G (k + 1))) (o := 0 + k) Try.sizeOf3 rfl rfl rfl rfl hT (by rw [List.length_map]; rw [dimV_len (by omega)]; omega) rfl ?_))))))))
    intro w14 hz14 hT hG14
    rw [imap_set] at hT
    replace hB := below_upd hB hG14 hsz (by omega)
    replace hsz : w.heap.size ≤ w14.heap.size := by rw [hz14]; exact hsz
    replace hb1 := hb1.upd hG14 (by omega)
    replace hb2 := hb2.upd hG14 (by omega)
    replace hb7 := hb7.upd hG14 (by omega)
    refine l_nil (r_inBlock (r_region' (l_q (q_add rfl rfl (by omega) rfl) (l_q (qmi rfl rfl) (l_nil ?_)))))
    exact ih4 (k + 1) _ _ ⟨⟨rfl, rfl, rfl, rfl, rfl, rfl, (vint_eq (by omega)), trivial⟩, (by omega), (blk_eq (dimV_step (by omega)) hT), hb1, hb2, hsz, hB⟩ (by first | omega | (dsimp only; omega))
   ·
    have g25 := hc10
    refine r_skip (r_seq (r_region' (l_q (qmi rfl rfl) (l_q (q_fieldAddr (o' := 0) rfl fld73_0 rfl) (l_q (q_load Try.isAgg70 rfl ((hb2.has (o := 0) rfl)) rfl) (l_q (q_load_agg (n := 2) Try.isAgg41 Try.sizeOf41 rfl ((hb7.cells' (cs' := [_, _]) 0 2 rfl)) rfl rfl) (l_o (o_callv (f := g) (fst := []) (cap := []) rfl hin rfl (hg (G.getD k rg0) _) rfl ?_))))))))
    rintro _ w15 ⟨rfl, hE15⟩
    replace hB := below_ext hB hE15 hsz
    replace hb1 := hb1.ext hE15
    replace hb2 := hb2.ext hE15
    replace hT := hT.ext hE15
    replace hsz := Nat.le_trans hsz hE15.size
    refine l_q (q_sub rfl rfl (by omega) rfl) (l_q (q_max rfl rfl rfl) (l_q (qai rfl rfl) (l_nil (r_forget [(2, .slice _ _ _), (4, .pointer _), (7, .slice _ _ _), (8, .int _ _), (9, .int _ _), (16, .slice _ _ _), (17, .int _ _), (18, .int _ _)] ⟨rfl, rfl, rfl, rfl, rfl, rfl, rfl, rfl, trivial⟩ (fun e16 => ?_)))))
    have hnw : max 0 ((nowM pk xs G k) - (pk (G.getD k rg0))) = nowM pk xs G (k + 1) := by rw [nowM]; first | rw [if_pos g25] | rw [if_neg (by rw [g25]; decide)]
    refine r_forget [(2, .slice _ _ _), (4, .pointer _), (7, .slice _ _ _), (8, vint (nowM pk xs G (k + 1))), (9, .int _ _), (16, .slice _ _ _), (17, .int _ _), (18, .int _ _)] ⟨rfl, rfl, rfl, vint_eq hnw, rfl, rfl, rfl, rfl, trivial⟩ (fun e17 => (r_region' (l_q (qms rfl rfl) (l_q (qmi rfl rfl) (l_q (qmi rfl rfl) (l_q (q_indexAddr1 Try.underlying26 Try.sizeOf3 rfl rfl rfl (by omega) rfl) (l_o (o_store1 (v := vint (nowM pk xs G (k + 1))) (o := 0 + k) Try.sizeOf3 rfl rfl rfl rfl hT (by rw [List.length_map]; rw [dimV_len (by omega)]; omega) rfl ?_))))))))
    intro w18 hz18 hT hG18
    rw [imap_set] at hT
    replace hB := below_upd hB hG18 hsz (by omega)
    replace hsz : w.heap.size ≤ w18.heap.size := by rw [hz18]; exact hsz
    replace hb1 := hb1.upd hG18 (by omega)
    replace hb2 := hb2.upd hG18 (by omega)
    refine l_nil (r_inBlock (r_region' (l_q (q_add rfl rfl (by omega) rfl) (l_q (qmi rfl rfl) (l_nil ?_)))))
    exact ih4 (k + 1) _ _ ⟨⟨rfl, rfl, rfl, rfl, rfl, rfl, (vint_eq (by omega)), trivial⟩, (by omega), (blk_eq (dimV_step (by omega)) hT), hb1, hb2, hsz, hB⟩ (by first | omega | (dsimp only; omega))
  ·
   replace hc5 := dlt hc5
   refine r_exit rfl (r_seq (r_region' (l_q (qms rfl rfl) (l_q (qas rfl rfl) (l_nil (r_ret_ (vs := [.slice _ _ _]) rfl Try.func24 rfl (.nil _) ⟨rfl, trivial⟩ ?_))))))
   have hkk : k = G.length := by omega
   subst hkk
   rw [dimV_all] at hT
   exact ⟨some ⟨b3, 0, none⟩, (dimsM pk xs G).length, by rw [dimsM_len]; rfl, row_of_blk hT (by rw [List.length_map]) (Nat.le_refl _), Ext.of_below hB⟩
theorem mbright_ret (fl : Int) (ga : Option Addr) (gc : Nat) (G : List RG) (xa : Option Addr) (xc : Nat) (xs : List Int) (w : World) (hG : Row w ga G.length gc 2 (G.flatMap RG.enc)) (hGn : G.length ≤ 2097152) (hx : Row w xa xs.length xc 1 (xs.map vint)) (hxn : xs.length ≤ 2097152) (hok : ∀ x ∈ G, okRG x = true) (hG0 : 0 < G.length) : Ret Try.prog 33 [.agg ⟨[vint fl, .slice ga G.length gc]⟩, .slice xa xs.length xc] w (fun v w' => v = .bool (decide (fl ≤ minOf (dimsM (fun x => x.hi) xs G))) ∧ Ext w w') := by
 have hB := Below.refl w.heap.size w
 have hsz : w.heap.size ≤ w.heap.size := Nat.le_refl _
 refine ret_of_runs (args := [_, _]) Try.func33 rfl (Nat.le_of_ble_eq_true rfl) (by kernel_rfl) (r_seq (r_region' (l_o (o_box rfl rfl rfl ?_))))
 intro b1 w1 hzl1 hzr1 _ hb1 hE1
 have hbs_b1 : w.heap.size ≤ b1 := Nat.le_trans hsz hzl1
 replace hB := below_ext hB hE1 hsz
 replace hsz := Nat.le_trans hsz hE1.size
 refine l_q (qab rfl rfl) (l_nil (r_seq (r_draw ext_refl' ext_trans' [0, 1, 2, 5, 6, 3, 4, 7, 8] [3, 4] 9 (by kernel_rfl) (by kernel_rfl) ?_)))
 intro w2 _ hE2
 replace hB := below_ext hB hE2 hsz
 replace hb1 := hb1.ext hE2
 replace hsz := Nat.le_trans hsz hE2.size
 refine m_q rfl rfl (fun w' hC' => q_load_agg (n := 2) Try.isAgg35 Try.sizeOf35 rfl (((hb1.cells' (cs' := [_, _]) 0 2 rfl).ext hC')) rfl rfl) (m_q rfl rfl (fun w' hC' => q_build (v := .agg ⟨[.func (.func 25) ⟨[]⟩ ⟨[]⟩]⟩) (fun w => by kernel_rfl) rfl) (m_q rfl rfl (fun w' hC' => qms rfl rfl) (m_q rfl rfl (fun w' hC' => q_fieldAddr (o' := 0) rfl fld35_0 rfl) (m_q rfl rfl (fun w' hC' => q_load Try.isAgg3 rfl (((hb1.has (o := 0) rfl).ext hC')) rfl) (m_o rfl rfl (o_call Try.call24 rfl (mafter_ret fl ga gc G _ _ xs 25 (fun x => x.hi) _ (hG.below hB) (by omega) (hx.below hB) (by omega) Try.call25 (fun x w => rhigh_ret x w) (fun x hx => okRG_hi (hok x hx))) rfl ?_))))))
 rintro _ w3 ⟨a3_0, c3_0, rfl, hr3_0, hE3⟩
 refine ⟨hE3, ?_⟩
 replace hB := below_ext hB hE3 hsz
 replace hsz := Nat.le_trans hsz hE3.size
 refine m_o rfl rfl (o_call Try.call43 rfl (rminimum_ret _ _ (dimsM (fun x => x.hi) xs G) _ hr3_0 (by rw [dimsM_len]; exact hGn) (by rw [dimsM_len]; exact hG0)) rfl ?_)
 rintro _ w4 ⟨rfl, hE4⟩
 refine ⟨hE4, ?_⟩
 replace hB := below_ext hB hE4 hsz
 replace hsz := Nat.le_trans hsz hE4.size
 refine m_q rfl rfl (fun w' hC' => q_geq rfl rfl rfl) (m_q rfl rfl (fun w' hC' => qab rfl rfl) (m_nil (r_forget [(4, .bool _)] ⟨rfl, trivial⟩ (fun e5 => (r_ret_ (vs := [.bool _]) rfl Try.func33 rfl (.nil _) ⟨rfl, trivial⟩ ?_)))))
 exact ⟨rfl, Ext.of_below hB⟩
end Go.Proofs.Ytbikicakdkbcgaa
