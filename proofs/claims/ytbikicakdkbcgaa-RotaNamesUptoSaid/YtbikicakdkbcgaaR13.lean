/- Contracts. -/
import Derived.Test.YtbikicakdkbcgaaR12
import Derived.Test.YtbikicakdkbcgaaR9
import Derived.Test.YtbikicakdkbcgaaGvCopy
set_option linter.unusedVariables false
set_option linter.unusedSimpArgs false
namespace Go.Proofs.Ytbikicakdkbcgaa
open Go Go.RowKit Go.Gv Go.Fl

def tryB (fl : Int) (G : List RG) (xs : List Int) : Bool := decide (fl ≤ minOf (dimsM (fun x => x.hi) xs G))
def scanP (f : Nat → Option (List Int)) : Nat → Nat → Option (List Int)
  | 0, _ => none
  | n + 1, i => match f i with
    | some l => some l
    | none => scanP f n (i + 1)
/-- the first list by which the mirror stays bright: many more from fr on -/
def polF (fl : Int) (G : List RG) : Nat → Nat → List Int → Option (List Int)
  | 0, _, xs => if tryB fl G xs = true then some xs else none
  | m + 1, fr, xs => scanP (fun i => polF fl G m (i + 1) (xs ++ [(i : Int)])) (G.length - fr) fr
theorem below_own_of {N base e size n : Nat} {w w' : World} {v : Value} {xs : List Value} (hG : w.grownBy w' v.ownBlock) (h : w.ownsRow base e size v n xs) (hb : N ≤ base) (hN : N ≤ w.heap.size) : Below N w w' :=
  ⟨hG.os, hG.tape, hG.output, hG.size, fun k hk => hG.block k (by omega) (fun he => by have := own_block_ge h he.symm; omega)⟩
theorem pol_no {fl : Int} {G : List RG} {fr : Nat} {xs : List Int} (h : tryB fl G xs = false) : polF fl G 0 fr xs = none := by unfold polF; rw [if_neg (by rw [h]; decide)]
theorem pol_yes {fl : Int} {G : List RG} {fr : Nat} {xs : List Int} (h : tryB fl G xs = true) : polF fl G 0 fr xs = some xs := by unfold polF; rw [if_pos h]
theorem scan_at {f : Nat → Option (List Int)} {n i : Nat} {l : List Int} (h : i < n) (hf : f i = some l) : scanP f (n - i) i = some l := by
  obtain ⟨m, hm⟩ : ∃ m, n - i = m + 1 := ⟨n - i - 1, by omega⟩
  rw [hm, scanP, hf]
theorem scan_skip {f : Nat → Option (List Int)} {n i : Nat} (h : i < n) (hf : f i = none) : scanP f (n - i) i = scanP f (n - (i + 1)) (i + 1) := by
  obtain ⟨m, hm⟩ : ∃ m, n - i = m + 1 := ⟨n - i - 1, by omega⟩
  rw [hm, scanP, hf, show n - (i + 1) = m by omega]
theorem scan_end {f : Nat → Option (List Int)} {n i : Nat} (h : n ≤ i) : scanP f (n - i) i = none := by rw [Nat.sub_eq_zero_of_le h]; rfl
theorem best_cast {B n k : Nat} (hn : n ≠ 0) : Value.slice (if n = (0 : Int).toNat then some ⟨B, 0, none⟩ else (some (⟨B, 0, none⟩ : Addr)).map (·.add ((0 : Int).toNat * 1))) ((k : Int).toNat - (0 : Int).toNat) (n - (0 : Int).toNat) = .slice (some ⟨B, 0, none⟩) k n := by
  rw [if_neg (by simpa using hn)]
  simp [Addr.add]


theorem polish_step (fl : Int) (ga : Option Addr) (gc : Nat) (G : List RG) (pb bb fb B : Nat) (vs : List Int) (fr many : Nat) (xa : Option Addr) (xc : Nat) (xs : List Int) (w : World) (hx : Row w xa xs.length xc 1 (xs.map vint)) (hxn : xs.length ≤ 2097152) (hGn : G.length ≤ 8) (hG0 : 0 < G.length) (hok : ∀ x ∈ G, okRG x = true) (hvs : vs.length = G.length) (hxl : xs.length + many ≤ G.length) (hfr : fr ≤ 9) (hG : Row w ga G.length gc 2 (G.flatMap RG.enc)) (hpb : Blk w pb [vint fl, .slice ga G.length gc]) (hbb : Blk w bb [.slice (some ⟨B, 0, none⟩) G.length G.length]) (hB0 : Blk w B (vs.map vint)) (hfb : Blk w fb [.func (.func 34) ⟨[]⟩ ⟨[ptr pb 0, ptr bb 0, ptr fb 0]⟩]) (ih : ∀ (m2 fr2 : Nat) (la2 : Option Addr) (lc2 : Nat) (xs2 : List Int) (w1 : World), m2 < many → Row w1 la2 xs2.length lc2 1 (xs2.map vint) → xs2.length + m2 ≤ G.length → fr2 ≤ 9 → Row w1 ga G.length gc 2 (G.flatMap RG.enc) → Blk w1 pb [vint fl, .slice ga G.length gc] → Blk w1 bb [.slice (some ⟨B, 0, none⟩) G.length G.length] → Blk w1 B (vs.map vint) → Blk w1 fb [.func (.func 34) ⟨[]⟩ ⟨[ptr pb 0, ptr bb 0, ptr fb 0]⟩] → Ret Try.prog 34 [.slice la2 xs2.length lc2, vint (fr2 : Int), vint (m2 : Int), ptr pb 0, ptr bb 0, ptr fb 0] w1 (fun v w' => ∃ y : Bool, v = .bool y ∧ (y = true → ∃ l2, polF fl G m2 fr2 xs2 = some l2 ∧ FrS (SX bb B) w1 w' ∧ Blk w' bb [.slice (some ⟨B, 0, none⟩) l2.length G.length] ∧ Blk w' B ((l2 ++ vs.drop l2.length).map vint)) ∧ (y = false → polF fl G m2 fr2 xs2 = none ∧ Ext w1 w'))) : Ret Try.prog 34 [.slice xa xs.length xc, vint (fr : Int), vint (many : Int), ptr pb 0, ptr bb 0, ptr fb 0] w (fun v w' => ∃ y : Bool, v = .bool y ∧ (y = true → ∃ l2, polF fl G many fr xs = some l2 ∧ FrS (SX bb B) w w' ∧ Blk w' bb [.slice (some ⟨B, 0, none⟩) l2.length G.length] ∧ Blk w' B ((l2 ++ vs.drop l2.length).map vint)) ∧ (y = false → polF fl G many fr xs = none ∧ Ext w w')) := by
 have hbbB := hbb.ne_len hB0 (fun h => by cases vs with | nil => simp at hvs; omega | cons x l => injection h with h _; cases h)
 have hbbl := hbb.lt
 have hBl := hB0.lt
 have hpbl := hpb.lt
 have hfbl := hfb.lt
 have hB := Below.refl w.heap.size w
 have hsz : w.heap.size ≤ w.heap.size := Nat.le_refl _
 refine ret_of_runs (args := [_, _, _, _, _, _]) Try.func34 rfl (Nat.le_of_ble_eq_true rfl) (by kernel_rfl) (r_seq (r_region' (l_q (qab rfl rfl) (l_nil (r_seq (r_seq (r_region' (l_q (qmi rfl rfl) (l_q (q_eql rfl rfl rfl) (l_nil (r_cond rfl (fun hc1 => ?_) (fun hc1 => ?_))))))))))))
 ·
  replace hc1 := dt hc1
  have hm0 : many = 0 := by omega
  subst hm0
  refine r_seq (r_seq (r_region' (l_q (q_load_agg (n := 2) Try.isAgg35 Try.sizeOf35 rfl (((hpb.below hB (by omega)).cells' (cs' := [_, _]) 0 2 rfl)) rfl rfl) (l_q (qms rfl rfl) (l_o (o_call Try.call33 rfl (mbright_ret fl ga gc G _ _ xs _ (hG.below hB) (by omega) (hx.below hB) (by omega) hok hG0) rfl ?_))))))
  rintro _ w2 ⟨rfl, hE2⟩
  replace hB := below_ext hB hE2 hsz
  replace hsz := Nat.le_trans hsz hE2.size
  refine l_q (q_not rfl rfl) (l_nil (r_forget [(0, .slice _ _ _), (4, .pointer _), (16, .bool _)] ⟨rfl, rfl, rfl, trivial⟩ (fun e3 => (r_cond rfl (fun hc4 => ?_) (fun hc4 => ?_)))))
  ·
   replace hc4 := nt hc4
   have g16 := dle hc4
   refine r_seq (r_region' (l_q (qab rfl rfl) (l_nil (r_ret_ (vs := [.bool _]) rfl Try.func34 rfl (.nil _) ⟨rfl, trivial⟩ ?_))))
   exact ⟨false, rfl, (fun h => by cases h), fun _ => ⟨pol_no (decide_eq_false (Int.not_le.2 g16)), Ext.of_below hB⟩⟩
  ·
   replace hc4 := nf hc4
   have g16 := dt hc4
   refine r_skip (r_seq (r_draw (gm_refl B) (gm_trans B) [0, 1, 2, 3, 4, 5] [3, 5, 1005] 9 (by kernel_rfl) (by kernel_rfl) ?_))
   intro w5 _ hE5
   replace hB := below_ext hB hE5 hsz
   replace hsz := Nat.le_trans hsz hE5.size
   refine m_q rfl rfl (fun w' hC' => q_load Try.isAgg26 rfl ((((hbb.below hB (by omega)).step hC' (by simp; omega)).has (o := 0) rfl)) rfl) (m_q rfl rfl (fun w' hC' => q_load Try.isAgg26 rfl ((((hbb.below hB (by omega)).step hC' (by simp; omega)).has (o := 0) rfl)) rfl) (m_q rfl rfl (fun w' hC' => qms rfl rfl) ?_))
   have hbb2 := hbb.below hB (by omega)
   have hBv := hB0.below hB (by omega)
   refine m_o rfl rfl (o_copy Try.underlying26 (by kernel_rfl) rfl rfl hBv rfl (hx.below hB) (by omega) (by omega) rfl ?_)
   intro w6 hz6 hBv hG6
   refine ⟨hG6, ?_⟩
   have hFv := FrS.of_grown (S := SX bb B) hG6 (fun k hk => by injection hk with hk; exact .inr hk.symm)
   replace hbb := hbb2.upd hG6 (by omega)
   replace hsz : w.heap.size ≤ w6.heap.size := by rw [hz6]; exact hsz
   have hFw := (FrS.of_ext (SX bb B) (Ext.of_below hB)).trans hFv (fun _ _ h => h)
   refine m_q rfl rfl (fun w' hC' => (q_slice (lo := 0) (hi := (xs.length : Int)) Try.underlying26 Try.sizeOf3 rfl rfl rfl (by omega) (Nat.le_refl _) rfl).cast (best_cast (by omega))) (m_last rfl rfl rfl (o_store (vs := [.slice (some ⟨B, 0, none⟩) xs.length G.length]) (cs' := [.slice (some ⟨B, 0, none⟩) xs.length G.length]) Try.sizeOf26 rfl rfl rfl rfl hbb (Nat.le_of_ble_eq_true rfl) rfl rfl ?_))
   intro w7 hz7 hbb hG7
   replace hsz : w.heap.size ≤ w7.heap.size := by rw [hz7]; exact hsz
   replace hFw := hFw.grown hG7 (fun k hk hlt => .inl (by injection hk with hk; exact hk.symm))
   replace hBv := hBv.upd hG7 (by omega)
   refine m_nil (r_seq (r_region' (l_q (qab rfl rfl) (l_nil (r_ret_ (vs := [.bool _]) rfl Try.func34 rfl (.nil _) ⟨rfl, trivial⟩ ?_)))))
   exact ⟨true, rfl, fun _ => ⟨xs, pol_yes (decide_eq_true g16), hFw, hbb, hBv⟩, (fun h => by cases h)⟩
 ·
  replace hc1 := df hc1
  obtain ⟨m2, hm2⟩ : ∃ m2, many = m2 + 1 := ⟨many - 1, by omega⟩
  refine r_skip (r_seq (r_seq (r_region' (l_q (qmi rfl rfl) (l_q (qai rfl rfl) (l_nil (r_block (r_rounds (α := Nat) (fun i e wl => Knows e [(0, .slice xa xs.length xc), (2, vint (many : Int)), (3, ptr pb 0), (5, ptr fb 0), (10, vint (i : Int))] ∧ (i ≤ 9) ∧ (polF fl G many fr xs = scanP (fun i => polF fl G (many - 1) (i + 1) (xs ++ [(i : Int)])) (G.length - i) i) ∧ (w.heap.size ≤ wl.heap.size) ∧ (Below w.heap.size w wl)) (fun i => G.length - i) fr ?_ ?_))))))))
  ·
   exact ⟨⟨rfl, rfl, rfl, rfl, rfl, trivial⟩, hfr, (by rw [hm2]; rfl), hsz, hB⟩
  ·
   rintro i el8 wl8 ⟨hkn, hi9, hA, hsz, hB⟩ ih8
   obtain ⟨e8, rfl⟩ := knows_env hkn
   refine r_seq (r_seq (r_region' (l_q (qmi rfl rfl) (l_q (q_fieldAddr (o' := 1) rfl fld35_1 rfl) (l_q (q_load Try.isAgg31 rfl (((hpb.below hB (by omega)).has (o := 1) rfl)) rfl) (l_q (q_len rfl Try.underlying31 rfl rfl) (l_q (q_lss rfl rfl rfl) (l_nil (r_cond rfl (fun hc9 => ?_) (fun hc9 => ?_))))))))))
   ·
    replace hc9 := dt hc9
    have hiG : i < G.length := by omega
    refine r_skip (r_seq (r_block (r_seq ?_)))
    have hszR : w.heap.size ≤ wl8.heap.size := hsz
    have hszW : wl8.heap.size ≤ wl8.heap.size := Nat.le_refl _
    have hltR_pb := (hpb.below hB (by omega)).lt
    have hltR_bb := (hbb.below hB (by omega)).lt
    have hltR_fb := (hfb.below hB (by omega)).lt
    refine r_draw3 (Below.refl wl8.heap.size) (fun _ _ _ h1 h2 => h1.trans h2) (.op 0 (.op 1 (.op 3 (.op 6 (.op 7 (.op 8 (.op 9 (.fork 2 (.op 4 (.op 5 (.op 10 (.done)))) (.op 4 (.op 2 (.op 5 (.op 10 (.done))))))))))))) [2, 4, 5, 10, 1010] 12 (by kernel_rfl) (by kernel_rfl) ?_
    intro w10 _ hE10
    replace hB := below_ext hB hE10 hsz
    replace hszW := Nat.le_trans hszW hE10.size
    replace hsz := Nat.le_trans hsz hE10.size
    refine m_q3 rfl rfl (fun w' hC' => q_load Try.isAgg80 rfl ((((hfb.below hB (by omega)).keep (hC'.block _ hltR_fb)).has (o := 0) rfl)) rfl) (m_q3 rfl rfl (fun w' hC' => qms rfl rfl) (m_q3 rfl rfl (fun w' hC' => qmi rfl rfl) (m_q3 rfl rfl (fun w' hC' => qmi rfl rfl) (m_q3 rfl rfl (fun w' hC' => q_add rfl rfl (by omega) rfl) (m_q3 rfl rfl (fun w' hC' => qmi rfl rfl) (m_q3 rfl rfl (fun w' hC' => q_sub rfl rfl (by omega) rfl) (m_fork3 ?_ ?_)))))))
    ·
     refine m_o3 rfl rfl (o_call Try.call21 rfl (clone_ret _ _ xs _ (hx.below hB) (by omega)) rfl ?_)
     rintro _ w11 ⟨a11_0, c11_0, rfl, ho11_0, hE11⟩
     replace ho11_0 := own_mono ho11_0 (show wl8.heap.size ≤ _ by omega)
     refine ⟨(below_ext_of hE11 hszW), ?_⟩
     replace hB := below_ext hB hE11 hsz
     replace hszW := Nat.le_trans hszW hE11.size
     replace hsz := Nat.le_trans hsz hE11.size
     refine m_o3 rfl rfl (o_buildSlice (el := 3) (cs := [vint (i : Int)]) Try.underlying26 el3 (by decide) (by kernel_rfl) rfl (by decide) rfl ?_)
     intro b12 w12 hzl12 hzr12 _ hb12 hE12 ho12
     refine ⟨(below_ext_of hE12 hszW), ?_⟩
     have hne_pb_b12 : pb ≠ b12 := by have := hpb.lt; omega
     have hne_bb_b12 : bb ≠ b12 := by have := hbb.lt; omega
     have hne_fb_b12 : fb ≠ b12 := by have := hfb.lt; omega
     have hbs_b12 : w.heap.size ≤ b12 := Nat.le_trans hsz hzl12
     have hWp_b12 := hszW
     have hbW_b12 := Nat.le_trans hszW hzl12
     replace hB := below_ext hB hE12 hsz
     replace hszW := Nat.le_trans hszW hE12.size
     replace ho11_0 := own_ext ho11_0 hE12
     replace hsz := Nat.le_trans hsz hE12.size
     replace ho12 := own_mono ho12 (show wl8.heap.size ≤ _ by omega)
     refine m_o3 rfl rfl (o_append_map (f := vint) (xs) ([(i : Int)]) Try.underlying26 el3 rfl rfl ho11_0 rfl (Row.of_owns ho12) (fun _ => rfl) (by (try simp only [List.length_append, List.length_cons, List.length_nil, List.length_take, List.length_drop, List.length_replicate]); omega) (by omega) rfl ?_)
     intro a13 c13 w13 hz13 ho13 hG13
     refine ⟨(below_own_of hG13 ho11_0 (by omega) hszW), ?_⟩
     replace hB := below_own hB hG13 ho11_0 (by omega) hsz
     replace hsz := Nat.le_trans hsz hG13.size
     have hm1 : ((many : Nat) : Int) - 1 = ((m2 : Nat) : Int) := by omega
     have hih := ih m2 (i + 1) _ _ (xs ++ [(i : Int)]) w13 (by omega) (Row.of_owns ho13) (by simp only [List.length_append, List.length_cons, List.length_nil]; omega) (by omega) (hG.below hB) (hpb.below hB hpb.lt) (hbb.below hB hbb.lt) (hB0.below hB hB0.lt) (hfb.below hB hfb.lt)
     rw [← hm1] at hih
     refine m_last3 rfl rfl rfl (o_callv (f := 34) (fst := []) (cap := [_, _, _]) rfl Try.call34 rfl (hih) rfl ?_)
     rintro _ w14 ⟨y40, rfl, hyT, hyF⟩
     refine m_nil3 (r_forget [(0, .slice _ _ _), (2, .int _ _), (3, .pointer _), (5, .pointer _), (10, .int _ _), (40, .bool _)] ⟨rfl, rfl, rfl, rfl, rfl, rfl, trivial⟩ (fun e15 => (r_cond rfl (fun hc16 => ?_) (fun hc16 => ?_))))
     ·
      have hyt := hyT hc16
      refine r_seq (r_region' (l_q (qab rfl rfl) (l_nil (r_ret_ (vs := [.bool _]) rfl Try.func34 rfl (.nil _) ⟨rfl, trivial⟩ ?_))))
      obtain ⟨l2, hl2, hF2, hb2, hB2⟩ := hyt
      exact ⟨true, rfl, fun _ => ⟨l2, (hA.trans (scan_at hiG (by rw [hm2]; exact hl2))), ((FrS.of_ext _ (Ext.of_below hB)).trans hF2 (fun _ _ h => h)), hb2, hB2⟩, (fun h => by cases h)⟩
     ·
      have hyf := hyF hc16
      replace hB := below_ext hB hyf.2 hsz
      replace hsz := Nat.le_trans hsz hyf.2.size
      refine r_skip (r_inBlock (r_region' (l_q (qmi rfl rfl) (l_q (q_add rfl rfl (by omega) rfl) (l_q (qai rfl rfl) (l_nil ?_))))))
      exact ih8 (i + 1) _ _ ⟨⟨rfl, rfl, rfl, rfl, (vint_eq (by omega)), trivial⟩, (by omega), (hA.trans (scan_skip hiG (by rw [hm2]; exact hyf.1))), hsz, hB⟩ (by first | omega | (dsimp only; omega))
    ·
     refine m_o3 rfl rfl (o_buildSlice (el := 3) (cs := [vint (i : Int)]) Try.underlying26 el3 (by decide) (by kernel_rfl) rfl (by decide) rfl ?_)
     intro b17 w17 hzl17 hzr17 _ hb17 hE17 ho17
     refine ⟨(below_ext_of hE17 hszW), ?_⟩
     have hne_pb_b17 : pb ≠ b17 := by have := hpb.lt; omega
     have hne_bb_b17 : bb ≠ b17 := by have := hbb.lt; omega
     have hne_fb_b17 : fb ≠ b17 := by have := hfb.lt; omega
     have hbs_b17 : w.heap.size ≤ b17 := Nat.le_trans hsz hzl17
     have hWp_b17 := hszW
     have hbW_b17 := Nat.le_trans hszW hzl17
     replace hB := below_ext hB hE17 hsz
     replace hszW := Nat.le_trans hszW hE17.size
     replace hsz := Nat.le_trans hsz hE17.size
     replace ho17 := own_mono ho17 (show wl8.heap.size ≤ _ by omega)
     refine m_o3 rfl rfl (o_call Try.call21 rfl (clone_ret _ _ xs _ (hx.below hB) (by omega)) rfl ?_)
     rintro _ w18 ⟨a18_0, c18_0, rfl, ho18_0, hE18⟩
     replace ho18_0 := own_mono ho18_0 (show wl8.heap.size ≤ _ by omega)
     refine ⟨(below_ext_of hE18 hszW), ?_⟩
     replace hB := below_ext hB hE18 hsz
     replace hszW := Nat.le_trans hszW hE18.size
     replace ho17 := own_ext ho17 hE18
     replace hsz := Nat.le_trans hsz hE18.size
     refine m_o3 rfl rfl (o_append_map (f := vint) (xs) ([(i : Int)]) Try.underlying26 el3 rfl rfl ho18_0 rfl (Row.of_owns ho17) (fun _ => rfl) (by (try simp only [List.length_append, List.length_cons, List.length_nil, List.length_take, List.length_drop, List.length_replicate]); omega) (by omega) rfl ?_)
     intro a19 c19 w19 hz19 ho19 hG19
     refine ⟨(below_own_of hG19 ho18_0 (by omega) hszW), ?_⟩
     replace hB := below_own hB hG19 ho18_0 (by omega) hsz
     replace hsz := Nat.le_trans hsz hG19.size
     have hm1 : ((many : Nat) : Int) - 1 = ((m2 : Nat) : Int) := by omega
     have hih := ih m2 (i + 1) _ _ (xs ++ [(i : Int)]) w19 (by omega) (Row.of_owns ho19) (by simp only [List.length_append, List.length_cons, List.length_nil]; omega) (by omega) (hG.below hB) (hpb.below hB hpb.lt) (hbb.below hB hbb.lt) (hB0.below hB hB0.lt) (hfb.below hB hfb.lt)
     rw [← hm1] at hih
     refine m_last3 rfl rfl rfl (o_callv (f := 34) (fst := []) (cap := [_, _, _]) rfl Try.call34 rfl (hih) rfl ?_)
     rintro _ w20 ⟨y40, rfl, hyT, hyF⟩
     refine m_nil3 (r_forget [(0, .slice _ _ _), (2, .int _ _), (3, .pointer _), (5, .pointer _), (10, .int _ _), (40, .bool _)] ⟨rfl, rfl, rfl, rfl, rfl, rfl, trivial⟩ (fun e21 => (r_cond rfl (fun hc22 => ?_) (fun hc22 => ?_))))
     ·
      have hyt := hyT hc22
      refine r_seq (r_region' (l_q (qab rfl rfl) (l_nil (r_ret_ (vs := [.bool _]) rfl Try.func34 rfl (.nil _) ⟨rfl, trivial⟩ ?_))))
      obtain ⟨l2, hl2, hF2, hb2, hB2⟩ := hyt
      exact ⟨true, rfl, fun _ => ⟨l2, (hA.trans (scan_at hiG (by rw [hm2]; exact hl2))), ((FrS.of_ext _ (Ext.of_below hB)).trans hF2 (fun _ _ h => h)), hb2, hB2⟩, (fun h => by cases h)⟩
     ·
      have hyf := hyF hc22
      replace hB := below_ext hB hyf.2 hsz
      replace hsz := Nat.le_trans hsz hyf.2.size
      refine r_skip (r_inBlock (r_region' (l_q (qmi rfl rfl) (l_q (q_add rfl rfl (by omega) rfl) (l_q (qai rfl rfl) (l_nil ?_))))))
      exact ih8 (i + 1) _ _ ⟨⟨rfl, rfl, rfl, rfl, (vint_eq (by omega)), trivial⟩, (by omega), (hA.trans (scan_skip hiG (by rw [hm2]; exact hyf.1))), hsz, hB⟩ (by first | omega | (dsimp only; omega))
   ·
    replace hc9 := dlt hc9
    refine r_exit rfl (r_seq (r_region' (l_q (qab rfl rfl) (l_nil (r_forget [(9, .bool _)] ⟨rfl, trivial⟩ (fun e23 => (r_ret_ (vs := [.bool _]) rfl Try.func34 rfl (.nil _) ⟨rfl, trivial⟩ ?_)))))))
    exact ⟨false, rfl, (fun h => by cases h), fun _ => ⟨hA.trans (scan_end (by omega)), Ext.of_below hB⟩⟩
end Go.Proofs.Ytbikicakdkbcgaa
