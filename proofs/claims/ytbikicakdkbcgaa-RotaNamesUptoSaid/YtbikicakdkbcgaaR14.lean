/- Contracts. -/
import Derived.Test.YtbikicakdkbcgaaR13
set_option linter.unusedVariables false
set_option linter.unusedSimpArgs false
namespace Go.Proofs.Ytbikicakdkbcgaa
open Go Go.RowKit Go.Gv Go.Fl

def upV (n k : Nat) : List Int := upTo k ++ List.replicate (n - k) 0
theorem upV_0 {n : Nat} : List.replicate n 0 = upV n 0 := by unfold upV upTo; simp
theorem upV_all {n : Nat} : upV n n = upTo n := by unfold upV; simp
theorem upV_len {n k : Nat} (h : k ≤ n) : (upV n k).length = n := by unfold upV; rw [List.length_append, upTo_len, List.length_replicate]; omega
theorem upV_step {n k : Nat} (h : k < n) : (upV n k).set (0 + k) (k : Int) = upV n (k + 1) := by
  unfold upV
  rw [Nat.zero_add, List.set_append_right _ _ (by rw [upTo_len]; exact Nat.le_refl _), upTo_len, Nat.sub_self]
  obtain ⟨m, hm⟩ : ∃ m, n - k = m + 1 := ⟨n - k - 1, by omega⟩
  rw [hm, List.replicate_succ, show n - (k + 1) = m by omega, ← upTo_step, List.append_assoc]
  rfl
theorem scan_len {f : Nat → Option (List Int)} {c : Nat} (hf : ∀ i l, f i = some l → l.length = c) : ∀ (n i : Nat) (l : List Int), scanP f n i = some l → l.length = c
  | 0, _, _, h => by cases h
  | n + 1, i, l, h => by
    rw [scanP] at h
    split at h
    · rename_i l2 h2
      cases h
      exact hf i _ h2
    · exact scan_len hf n (i + 1) l h
theorem pol_len {fl : Int} {G : List RG} : ∀ (m fr : Nat) (xs l : List Int), polF fl G m fr xs = some l → l.length = xs.length + m
  | 0, fr, xs, l, h => by
    unfold polF at h
    split at h
    · cases h; rfl
    · cases h
  | m + 1, fr, xs, l, h => by
    unfold polF at h
    exact scan_len (c := xs.length + (m + 1)) (fun i l h2 => by rw [pol_len m (i + 1) _ l h2, List.length_append]; simp; omega) _ _ _ h
def polishM (fl : Int) (G : List RG) : Int × List Int :=
  if mfault fl G = 0 then (if tryB fl G (upTo G.length) = true then (0, (scanP (fun m => polF fl G m 0 []) (G.length + 1) 0).getD (upTo G.length)) else (10, [])) else (mfault fl G, [])
section
variable {fl : Int} {G : List RG} {l : List Int}
theorem pm_e (h : ¬ mfault fl G = 0) : polishM fl G = (mfault fl G, []) := if_neg h
theorem pm_2 (h : mfault fl G = 0) (h2 : tryB fl G (upTo G.length) = false) : polishM fl G = (10, []) := by unfold polishM; rw [if_pos h, if_neg (by rw [h2]; decide)]
theorem pm_1 (h : mfault fl G = 0) (h2 : tryB fl G (upTo G.length) = true) (h3 : scanP (fun m => polF fl G m 0 []) (G.length + 1) 0 = some l) : polishM fl G = (0, l) := by unfold polishM; rw [if_pos h, if_pos h2, h3]; rfl
theorem pm_0 (h : mfault fl G = 0) (h2 : tryB fl G (upTo G.length) = true) (h3 : scanP (fun m => polF fl G m 0 []) (G.length + 1) 0 = none) : polishM fl G = (0, upTo G.length) := by unfold polishM; rw [if_pos h, if_pos h2, h3]; rfl
end
theorem row_pre {w : World} {b c : Nat} {l r : List Int} (h : Blk w b ((l ++ r).map vint)) (hl : l.length ≤ c) : Row w (some ⟨b, 0, none⟩) l.length c 1 (l.map vint) :=
  ⟨by simp, hl, .inr ⟨b, 0, rfl, fun j v hj => h.cells0 j v (by
    rw [List.map_append, List.getElem?_append_left (by
      rcases Nat.lt_or_ge j (l.map vint).length with h | h
      · exact h
      · rw [List.getElem?_eq_none h] at hj; cases hj)]
    exact hj)⟩⟩


theorem polish1_ret {fl : Int} {ga : Option Addr} {gc : Nat} {G : List RG} {pb bb fb B : Nat} {vs : List Int} (hGn : G.length ≤ 8) (hG0 : 0 < G.length) (hok : ∀ x ∈ G, okRG x = true) (hvs : vs.length = G.length) :
    ∀ (n many fr : Nat) (xa : Option Addr) (xc : Nat) (xs : List Int) (w : World), many ≤ n → Row w xa xs.length xc 1 (xs.map vint) → xs.length + many ≤ G.length → fr ≤ 9 → Row w ga G.length gc 2 (G.flatMap RG.enc) → Blk w pb [vint fl, .slice ga G.length gc] → Blk w bb [.slice (some ⟨B, 0, none⟩) G.length G.length] → Blk w B (vs.map vint) → Blk w fb [.func (.func 34) ⟨[]⟩ ⟨[ptr pb 0, ptr bb 0, ptr fb 0]⟩] →
      Ret Try.prog 34 [.slice xa xs.length xc, vint (fr : Int), vint (many : Int), ptr pb 0, ptr bb 0, ptr fb 0] w (fun v w' => ∃ y : Bool, v = .bool y ∧ (y = true → ∃ l2, polF fl G many fr xs = some l2 ∧ FrS (SX bb B) w w' ∧ Blk w' bb [.slice (some ⟨B, 0, none⟩) l2.length G.length] ∧ Blk w' B ((l2 ++ vs.drop l2.length).map vint)) ∧ (y = false → polF fl G many fr xs = none ∧ Ext w w')) := by
  intro n
  induction n with
  | zero =>
    intro many fr xa xc xs w hn hx hxl hfr h1 h2 h3 h4 h5
    exact polish_step _ _ _ _ _ _ _ _ vs fr many xa xc xs w hx (by omega) hGn hG0 hok hvs hxl hfr h1 h2 h3 h4 h5 (fun m2 fr2 la2 lc2 xs2 w1 hlt => by omega)
  | succ n ih =>
    intro many fr xa xc xs w hn hx hxl hfr h1 h2 h3 h4 h5
    exact polish_step _ _ _ _ _ _ _ _ vs fr many xa xc xs w hx (by omega) hGn hG0 hok hvs hxl hfr h1 h2 h3 h4 h5 (fun m2 fr2 la2 lc2 xs2 w1 hlt => ih m2 fr2 la2 lc2 xs2 w1 (by omega))
theorem polish_ret (fl : Int) (ga : Option Addr) (gc : Nat) (G : List RG) (w : World) (hG : Row w ga G.length gc 2 (G.flatMap RG.enc)) (hGn : G.length ≤ 2097152) : Ret Try.prog 12 [.agg ⟨[vint fl, .slice ga G.length gc]⟩] w (fun v w' => ∃ ra rc, v = .tuple ⟨[.slice ra (polishM fl G).2.length rc, vint (polishM fl G).1]⟩ ∧ Row w' ra (polishM fl G).2.length rc 1 ((polishM fl G).2.map vint) ∧ Ext w w') := by
 have hB := Below.refl w.heap.size w
 have hsz : w.heap.size ≤ w.heap.size := Nat.le_refl _
 refine ret_of_runs (args := [_]) Try.func12 rfl (Nat.le_of_ble_eq_true rfl) (by kernel_rfl) (r_seq (r_region' (l_o (o_box rfl rfl rfl ?_))))
 intro b1 w1 hzl1 hzr1 _ hb1 hE1
 have hbs_b1 : w.heap.size ≤ b1 := Nat.le_trans hsz hzl1
 replace hB := below_ext hB hE1 hsz
 replace hsz := Nat.le_trans hsz hE1.size
 refine l_q (qas rfl rfl) (l_q (qai rfl rfl) (l_nil (r_seq (r_seq (r_region' (l_q (q_load_agg (n := 2) Try.isAgg35 Try.sizeOf35 rfl ((hb1.cells' (cs' := [_, _]) 0 2 rfl)) rfl rfl) (l_o (o_call Try.call22 rfl (mcheck_ret fl ga gc G _ (hG.below hB) (by omega)) rfl ?_))))))))
 rintro _ w2 ⟨rfl, hE2⟩
 replace hB := below_ext hB hE2 hsz
 replace hb1 := hb1.ext hE2
 replace hsz := Nat.le_trans hsz hE2.size
 refine l_q (qai rfl rfl) (l_nil (r_seq (r_region' (l_q (qmi rfl rfl) (l_q (q_neq rfl rfl rfl) (l_nil (r_cond rfl (fun hc3 => ?_) (fun hc3 => ?_))))))))
 ·
  replace hc3 := df (nt hc3)
  have hp := hc3
  refine r_seq (r_region' (l_q (qmi rfl rfl) (l_q (qas rfl rfl) (l_q (qai rfl rfl) (l_nil (r_ret_ (vs := [.slice _ _ _, .int _ _]) rfl Try.func12 rfl (.nil _) ⟨rfl, rfl, trivial⟩ ?_))))))
  exact ⟨none, 0, by rw [pm_e hp]; rfl, by rw [pm_e hp]; exact Row.nil _ _ _ _, Ext.of_below hB⟩
 ·
  replace hc3 := dt (nf hc3)
  have hp : mfault fl G = 0 := by simpa using hc3
  obtain ⟨⟨hf1, hf2⟩, ⟨hg0, hg8⟩, hok⟩ := mf_ok hp
  refine r_skip (r_seq (r_region' (l_q (q_fieldAddr (o' := 1) rfl fld35_1 rfl) (l_q (q_load Try.isAgg31 rfl ((hb1.has (o := 1) rfl)) rfl) (l_q (q_len rfl Try.underlying31 rfl rfl) (l_o (o_makeSlice (n := G.length) Try.underlying26 el3 (rfl) (rfl) (by omega) (by unfold maxLen; omega) rfl ?_)))))))
  intro b4 w4 hzl4 hzr4 _ hb4 hE4 ho4
  rw [made_one _ _ rfl] at hb4 ho4
  have hne_b1_b4 : b1 ≠ b4 := by have := hb1.lt; omega
  have hbs_b4 : w.heap.size ≤ b4 := Nat.le_trans hsz hzl4
  replace hB := below_ext hB hE4 hsz
  replace hb1 := hb1.ext hE4
  replace hsz := Nat.le_trans hsz hE4.size
  refine l_o (o_alloc Try.zeroValue26 rfl rfl ?_)
  intro b5 w5 hzl5 hzr5 _ hb5 hE5
  have hne_b1_b5 : b1 ≠ b5 := by have := hb1.lt; omega
  have hne_b4_b5 : b4 ≠ b5 := by have := hb4.lt; omega
  have hbs_b5 : w.heap.size ≤ b5 := Nat.le_trans hsz hzl5
  replace hB := below_ext hB hE5 hsz
  replace hb1 := hb1.ext hE5
  replace hb4 := hb4.ext hE5
  replace hsz := Nat.le_trans hsz hE5.size
  refine l_o (o_store (vs := [.slice (some ⟨b4, 0, none⟩) G.length G.length]) (cs' := [.slice (some ⟨b4, 0, none⟩) G.length G.length]) Try.sizeOf26 rfl rfl rfl rfl hb5 (Nat.le_of_ble_eq_true rfl) rfl rfl ?_)
  intro w6 hz6 hb5 hG6
  replace hB := below_upd hB hG6 hsz (by omega)
  replace hsz : w.heap.size ≤ w6.heap.size := by rw [hz6]; exact hsz
  replace hb1 := hb1.upd hG6 (by omega)
  replace hb4 := hb4.upd hG6 (by omega)
  refine l_nil (r_forget [(1, .pointer _), (5, .pointer _)] ⟨rfl, rfl, trivial⟩ (fun e7 => (r_seq (r_seq ?_))))
  have hT : Blk w6 b4 ((upV G.length 0).map vint) := by rw [← upV_0, List.map_replicate]; exact hb4
  refine r_region' (l_q (q_load Try.isAgg26 rfl ((hb5.has (o := 0) rfl)) rfl) (l_q (q_len rfl Try.underlying26 rfl rfl) (l_q (qmi rfl rfl) (l_nil (r_block (r_rounds (α := Nat) (fun k e wl => Knows e [(1, ptr b1 0), (5, ptr b5 0), (19, vint (G.length : Int)), (20, vint (k : Int))] ∧ (k ≤ G.length) ∧ (Blk wl b4 ((upV G.length k).map vint)) ∧ (Blk wl b1 [vint fl, .slice ga G.length gc]) ∧ (Blk wl b5 [.slice (some ⟨b4, 0, none⟩) G.length G.length]) ∧ (w.heap.size ≤ wl.heap.size) ∧ (Below w.heap.size w wl)) (fun k => G.length - k) 0 ?_ ?_))))))
  ·
   exact ⟨⟨rfl, rfl, rfl, rfl, trivial⟩, (Nat.zero_le _), hT, hb1, hb5, hsz, hB⟩
  ·
   rintro k el8 wl8 ⟨hkn, hkk, hT, hb1, hb5, hsz, hB⟩ ih8
   obtain ⟨e8, rfl⟩ := knows_env hkn
   refine r_seq (r_region' (l_q (q_lss rfl rfl rfl) (l_nil (r_seq (r_cond rfl (fun hc9 => ?_) (fun hc9 => ?_))))))
   ·
    replace hc9 := dt hc9
    refine r_skip (r_seq (r_block (r_seq (r_region' (l_q (qmi rfl rfl) (l_q (qai rfl rfl) (l_nil (r_region' (l_q (q_load Try.isAgg26 rfl ((hb5.has (o := 0) rfl)) rfl) (l_q (qmi rfl rfl) (l_q (qmi rfl rfl) (l_q (q_indexAddr1 Try.underlying26 Try.sizeOf3 rfl rfl rfl (by omega) rfl) (l_o (o_store1 (v := vint (k : Int)) (o := 0 + k) Try.sizeOf3 rfl rfl rfl rfl hT (by rw [List.length_map]; first | (rw [upV_len (by omega)]; omega) | (rw [upTo_len]; omega)) rfl ?_))))))))))))))
    intro w10 hz10 hT hG10
    rw [imap_set] at hT
    replace hB := below_upd hB hG10 hsz (by omega)
    replace hsz : w.heap.size ≤ w10.heap.size := by rw [hz10]; exact hsz
    replace hb1 := hb1.upd hG10 (by omega)
    replace hb5 := hb5.upd hG10 (by omega)
    refine l_nil (r_inBlock (r_region' (l_q (q_add rfl rfl (by omega) rfl) (l_q (qmi rfl rfl) (l_nil ?_)))))
    exact ih8 (k + 1) _ _ ⟨⟨rfl, rfl, rfl, by first | rfl | exact vint_eq (by omega), trivial⟩, (by omega), (blk_eq (upV_step (by omega)) hT), hb1, hb5, hsz, hB⟩ (by first | omega | (dsimp only; omega))
   ·
    replace hc9 := dlt hc9
    refine r_exit rfl (r_seq (r_seq ?_))
    have hkk : k = G.length := by omega
    rw [hkk, upV_all] at hT
    refine r_region' (l_q (q_load_agg (n := 2) Try.isAgg35 Try.sizeOf35 rfl ((hb1.cells' (cs' := [_, _]) 0 2 rfl)) rfl rfl) (l_q (q_load Try.isAgg26 rfl ((hb5.has (o := 0) rfl)) rfl) ?_))
    have hbr := mbright_ret fl ga gc G (some ⟨b4, 0, none⟩) G.length (upTo G.length) wl8 (hG.below hB) (by omega) (row_of_blk hT (by rw [List.length_map]) (by rw [upTo_len]; exact Nat.le_refl _)) (by rw [upTo_len]; omega) hok hg0
    rw [upTo_len] at hbr
    refine l_o (o_call Try.call33 rfl (hbr) rfl ?_)
    rintro _ w11 ⟨rfl, hE11⟩
    replace hB := below_ext hB hE11 hsz
    replace hb1 := hb1.ext hE11
    replace hb5 := hb5.ext hE11
    replace hT := hT.ext hE11
    replace hsz := Nat.le_trans hsz hE11.size
    refine l_q (q_not rfl rfl) (l_nil (r_cond rfl (fun hc12 => ?_) (fun hc12 => ?_)))
    ·
     replace hc12 := nt hc12
     have g31 := dle hc12
     refine r_seq (r_region' (l_q (qas rfl rfl) (l_q (qai rfl rfl) (l_nil (r_ret_ (vs := [.slice _ _ _, .int _ _]) rfl Try.func12 rfl (.nil _) ⟨rfl, rfl, trivial⟩ ?_)))))
     have hpm := pm_2 hp (decide_eq_false (Int.not_le.2 g31))
     exact ⟨none, 0, by rw [hpm]; rfl, by rw [hpm]; exact Row.nil _ _ _ _, Ext.of_below hB⟩
    ·
     replace hc12 := nf hc12
     have g31 := dt hc12
     refine r_skip (r_seq (r_region' (l_o (o_alloc Try.zeroValue80 rfl rfl ?_))))
     intro b13 w13 hzl13 hzr13 _ hb13 hE13
     have hne_b1_b13 : b1 ≠ b13 := by have := hb1.lt; omega
     have hne_b5_b13 : b5 ≠ b13 := by have := hb5.lt; omega
     have hne_b4_b13 : b4 ≠ b13 := by have := hT.lt; omega
     have hbs_b13 : w.heap.size ≤ b13 := Nat.le_trans hsz hzl13
     replace hB := below_ext hB hE13 hsz
     replace hb1 := hb1.ext hE13
     replace hb5 := hb5.ext hE13
     replace hT := hT.ext hE13
     replace hsz := Nat.le_trans hsz hE13.size
     refine l_nil (r_seq (r_region' (l_q (q_makeFunc (v := .func _ ⟨[]⟩ ⟨[_, _, _]⟩) rfl rfl) (l_o (o_store (vs := [.func (.func 34) ⟨[]⟩ ⟨[ptr b1 0, ptr b5 0, ptr b13 0]⟩]) (cs' := [.func (.func 34) ⟨[]⟩ ⟨[ptr b1 0, ptr b5 0, ptr b13 0]⟩]) Try.sizeOf80 rfl rfl rfl rfl hb13 (Nat.le_of_ble_eq_true rfl) rfl rfl ?_)))))
     intro w14 hz14 hb13 hG14
     replace hB := below_upd hB hG14 hsz (by omega)
     replace hsz : w.heap.size ≤ w14.heap.size := by rw [hz14]; exact hsz
     replace hb1 := hb1.upd hG14 (by omega)
     replace hb5 := hb5.upd hG14 (by omega)
     replace hT := hT.upd hG14 (by omega)
     refine l_nil (r_seq (r_seq (r_region' (l_q (q_fieldAddr (o' := 1) rfl fld35_1 rfl) (l_q (q_load Try.isAgg31 rfl ((hb1.has (o := 1) rfl)) rfl) (l_q (q_len rfl Try.underlying31 rfl rfl) (l_q (q_add rfl rfl (by omega) rfl) (l_q (qmi rfl rfl) (l_nil (r_forget [(5, .pointer _), (7, .pointer _), (36, .int _ _), (37, .int _ _)] ⟨rfl, rfl, rfl, rfl, trivial⟩ (fun e15 => (r_block ?_))))))))))))
     refine r_rounds (α := Nat) (fun m e wl => Knows e [(5, ptr b5 0), (7, ptr b13 0), (36, vint ((G.length : Int) + 1)), (37, vint (m : Int))] ∧ (m ≤ G.length + 1) ∧ (scanP (fun m => polF fl G m 0 []) (G.length + 1) 0 = scanP (fun m => polF fl G m 0 []) (G.length + 1 - m) m) ∧ (Blk wl b1 [vint fl, .slice ga G.length gc]) ∧ (Blk wl b5 [.slice (some ⟨b4, 0, none⟩) G.length G.length]) ∧ (Blk wl b4 ((upTo G.length).map vint)) ∧ (Blk wl b13 [.func (.func 34) ⟨[]⟩ ⟨[ptr b1 0, ptr b5 0, ptr b13 0]⟩]) ∧ (w.heap.size ≤ wl.heap.size) ∧ (Below w.heap.size w wl)) (fun m => G.length + 1 - m) 0 ?_ ?_
     ·
      exact ⟨⟨rfl, rfl, rfl, rfl, trivial⟩, (Nat.zero_le _), rfl, hb1, hb5, hT, hb13, hsz, hB⟩
     ·
      rintro m el16 wl16 ⟨hkn, hm9, hA, hb1, hb5, hT, hb13, hsz, hB⟩ ih16
      obtain ⟨e16, rfl⟩ := knows_env hkn
      refine r_seq (r_region' (l_q (q_lss rfl rfl rfl) (l_nil (r_seq (r_cond rfl (fun hc17 => ?_) (fun hc17 => ?_))))))
      ·
       replace hc17 := dt hc17
       refine r_skip (r_seq (r_block (r_seq (r_region' (l_q (qmi rfl rfl) (l_q (qai rfl rfl) (l_nil (r_seq (r_region' (l_q (q_load Try.isAgg80 rfl ((hb13.has (o := 0) rfl)) rfl) (l_q (qmi rfl rfl) (l_o (o_callv (f := 34) (fst := []) (cap := [_, _, _]) rfl Try.call34 rfl (polish1_ret (vs := upTo G.length) (by omega) hg0 hok (upTo_len _) _ m 0 none 0 [] _ (Nat.le_refl _) (Row.nil _ _ _ _) (by show 0 + m ≤ _; omega) (by decide) (hG.below hB) hb1 hb5 hT hb13) rfl ?_)))))))))))))
       rintro _ w18 ⟨y42, rfl, hyT, hyF⟩
       refine l_nil (r_cond rfl (fun hc19 => ?_) (fun hc19 => ?_))
       ·
        obtain ⟨l2, hl2, hF2, hb2, hB2⟩ := hyT hc19
        replace hB := hF2.below hB hsz (by rintro k (h | h) <;> omega)
        replace hsz := Nat.le_trans hsz hF2.size
        refine r_exit rfl (r_seq (r_region' (l_q (q_load Try.isAgg26 rfl ((hb2.has (o := 0) rfl)) rfl) (l_q (qas rfl rfl) (l_q (qai rfl rfl) (l_nil (r_forget [(2, .slice _ _ _), (3, .int _ _)] ⟨rfl, rfl, trivial⟩ (fun e20 => (r_ret_ (vs := [.slice _ _ _, .int _ _]) rfl Try.func12 rfl (.nil _) ⟨rfl, rfl, trivial⟩ ?_)))))))))
        have hpm := pm_1 hp (decide_eq_true g31) (hA.trans (scan_at (by omega) hl2))
        exact ⟨some ⟨b4, 0, none⟩, G.length, by rw [hpm]; rfl, by rw [hpm]; exact row_pre hB2 (by rw [pol_len _ _ _ _ hl2]; simp; omega), Ext.of_below hB⟩
       ·
        have hnf := (hyF hc19).1
        have hEf := (hyF hc19).2
        replace hB := below_ext hB hEf hsz
        replace hb1 := hb1.ext hEf
        replace hb5 := hb5.ext hEf
        replace hT := hT.ext hEf
        replace hb13 := hb13.ext hEf
        replace hsz := Nat.le_trans hsz hEf.size
        refine r_skip (r_inBlock (r_region' (l_q (q_add rfl rfl (by omega) rfl) (l_q (qmi rfl rfl) (l_nil ?_)))))
        exact ih16 (m + 1) _ _ ⟨⟨rfl, rfl, rfl, by first | rfl | exact vint_eq (by omega), trivial⟩, (by omega), (hA.trans (scan_skip (by omega) hnf)), hb1, hb5, hT, hb13, hsz, hB⟩ (by first | omega | (dsimp only; omega))
      ·
       replace hc17 := dlt hc17
       refine r_exit rfl (r_seq (r_region' (l_q (q_load Try.isAgg26 rfl ((hb5.has (o := 0) rfl)) rfl) (l_q (qas rfl rfl) (l_q (qai rfl rfl) (l_nil (r_ret_ (vs := [.slice _ _ _, .int _ _]) rfl Try.func12 rfl (.nil _) ⟨rfl, rfl, trivial⟩ ?_)))))))
       have hpm := pm_0 hp (decide_eq_true g31) (hA.trans (scan_end (by omega)))
       exact ⟨some ⟨b4, 0, none⟩, G.length, by rw [hpm, upTo_len]; rfl, by rw [hpm]; exact row_of_blk hT (by rw [List.length_map]) (by rw [upTo_len]; exact Nat.le_refl _), Ext.of_below hB⟩
end Go.Proofs.Ytbikicakdkbcgaa
