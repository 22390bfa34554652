/- Contracts. -/
import Derived.Test.YtbikicakdkbcgabGreatA3
import Derived.Test.YtbikicakdkbcgabGreatR8
import Derived.Test.YtbikicakdkbcgabGreatGvTy3
set_option linter.unusedVariables false
set_option linter.unusedSimpArgs false
namespace Go.Proofs.YtbikicakdkbcgabGreat
open Go Go.RowKit Go.Gv Go.Fl
theorem grown_own {a b c : World} {m base e size n : Nat} {v : Value} {xs : List Value} (h : a.grownBy b (some m)) (ho : b.ownsRow base e size v n xs) (hG : b.grownBy c v.ownBlock) (hb : a.heap.size ≤ base) : a.grownBy c (some m) :=
  ⟨hG.os.trans h.os, hG.tape.trans h.tape, hG.output.trans h.output, Nat.le_trans h.size hG.size, fun k hk hm => (hG.block k (Nat.lt_of_lt_of_le hk h.size) (fun he => by have := own_block_ge ho he.symm; omega)).trans (h.block k hk hm)⟩
/-! ### The way that is chosen -/
inductive LeastP (cap can s0 s1 : Int) (ns : List NT) (cs : List Int) : List Int → Int → Int → Prop
  | nil : LeastP cap can s0 s1 ns cs [] s0 0
  | snoc {ys : List Int} {oil lt n : Int} : LeastP cap can s0 s1 ns cs ys oil lt → ys.length < ns.length → (ns.getD ys.length nt0).le ≤ n ∧ n ≤ (ns.getD ys.length nt0).mo → stB cap can s0 s1 ns cs ys.length n oil = true → LeastP cap can s0 s1 ns cs (ys ++ [n]) (stL cap can s0 s1 ns cs ys.length n oil) (lt + n * (ns.getD ys.length nt0).h)
section
variable {cap can s0 s1 : Int} {ns : List NT} {cs : List Int} {k : Nat} {oil lt n : Int} {ys : List Int}
theorem LeastP.at (h : LeastP cap can s0 s1 ns cs ys oil lt) (hk : ys.length = k) (h1 : k < ns.length) (h2 : (ns.getD k nt0).le ≤ n ∧ n ≤ (ns.getD k nt0).mo) (h3 : stB cap can s0 s1 ns cs k n oil = true) : LeastP cap can s0 s1 ns cs (ys ++ [n]) (stL cap can s0 s1 ns cs k n oil) (lt + n * (ns.getD k nt0).h) := by
  subst hk
  exact .snoc h h1 h2 h3
theorem ch_never (hk : k < ns.length) (h : ch cap can s0 s1 ns cs k oil < 1048576) (hno : ∀ i, i < wkN ns k → ¬ (stB cap can s0 s1 ns cs k ((ns.getD k nt0).le + (i : Int)) oil = true ∧ -((ns.getD k nt0).le + (i : Int)) * (ns.getD k nt0).h + ch cap can s0 s1 ns cs (k + 1) (stL cap can s0 s1 ns cs k ((ns.getD k nt0).le + (i : Int)) oil) = ch cap can s0 s1 ns cs k oil)) : False := by
  rcases chA_hit (cap := cap) (can := can) (s0 := s0) (s1 := s1) (ns := ns) (cs := cs) (k := k) (oil := oil) (j := wkN ns k) with h1 | ⟨i, h1, h2, h3⟩
  · rw [ch_all hk] at h; omega
  · exact hno i h1 ⟨h2, by rw [h3, ch_all hk]⟩
theorem mapAt_own {w w' : World} {m ck base e size n : Nat} {es : List MapEntry} {v : Value} {xs : List Value} (h : MapAt w m es ck) (ho : w.ownsRow base e size v n xs) (hG : w.grownBy w' v.ownBlock) : MapAt w' m es ck := h.keep (hG.block m h.lt (fun he => by
  rcases ho.2 with ⟨h1, _⟩ | ⟨g', cap', cur, h1, _, hg2, _⟩
  · rw [h1] at he; cases he
  · rw [h1] at he
    simp only [Value.ownBlock, Option.some.injEq] at he
    subst he
    exact h.unc _ _ _ hg2))
def Cls3 (a b c : Nat) (x y z : List Value) (w w' : World) : Prop := (Blk w a x → Blk w' a x) ∧ (Blk w b y → Blk w' b y) ∧ (Blk w c z → Blk w' c z)
theorem Cls3.refl (a b c : Nat) (x y z : List Value) : ∀ w, Cls3 a b c x y z w w := fun _ => ⟨id, id, id⟩
theorem Cls3.trans (a b c : Nat) (x y z : List Value) : ∀ u v w, Cls3 a b c x y z u v → Cls3 a b c x y z v w → Cls3 a b c x y z u w := fun _ _ _ h1 h2 => ⟨fun h => h2.1 (h1.1 h), fun h => h2.2.1 (h1.2.1 h), fun h => h2.2.2 (h1.2.2 h)⟩
theorem Cls3.ext {a b c : Nat} {x y z : List Value} {w w' : World} (h : Ext w w') : Cls3 a b c x y z w w' := ⟨fun h1 => h1.ext h, fun h1 => h1.ext h, fun h1 => h1.ext h⟩
def BestP (cap can s0 s1 : Int) (ns : List NT) (cs : List Int) (w' : World) (v : Value) : Prop := ∃ ra rc X C is, v = .tuple ⟨[.slice ra (List.length X) rc, vint C, .bool is]⟩ ∧ Row w' ra (List.length X) rc 1 (X.map vint) ∧ is = decide (ch cap can s0 s1 ns cs 0 s0 < 524288) ∧ (is = true → ∃ oil lt, LeastP cap can s0 s1 ns cs X oil lt ∧ X.length = ns.length ∧ C = -lt ∧ C = ch cap can s0 s1 ns cs 0 s0)
end


set_option maxHeartbeats 1000000 in
theorem lbest_ret (cap can s0 s1 : Int) (sa : Option Addr) (sc : Nat) (ns : List NT) (ka : Option Addr) (kc : Nat) (cs : List Int) (wb sb kb m : Nat) (clock : Nat) (es : List MapEntry) (w : World) (hok : OkS cap can s0 s1 ns) (hcn : CansP ns cs) (hk : LwH w cap can s0 s1 sa sc ns ka kc cs wb sb kb m) (hM : MapAt w m es clock) (hMemo : MemoL cap can s0 s1 ns cs es) : Ret Tryz.prog 29 [ptr wb 0] w (fun v w' => BestP cap can s0 s1 ns cs w' v ∧ w.grownBy w' (some m)) := by
 have hM0 := hM
 have hG0 := gm_refl m w
 have hmN := hM.lt
 have hwl_ := hk.blk.lt
 have hn6 := hok.six
 have hst := hok.st
 have hcap := hok.cap1
 have hch0 := ch_bnd (cs := cs) (oil := s0) hok (Nat.zero_le _)
 have hsz : w.heap.size ≤ w.heap.size := Nat.le_refl _
 refine ret_of_runs (args := [_]) Tryz.func29 rfl (Nat.le_of_ble_eq_true rfl) (by kernel_rfl) (r_seq (r_region' (l_q (qas rfl rfl) (l_q (qai rfl rfl) (l_q (qab rfl rfl) (l_nil (r_seq (r_region' (l_q (q_move (v := .pointer _) rfl rfl) (l_q (q_nilCheck rfl rfl) (l_q (q_fieldAddr (o' := 0) rfl fld85_0 rfl) (l_q (q_fieldAddr (o' := 2) rfl fld46_2 rfl) (l_q (q_fieldAddr (o' := 0) rfl fld43_0 rfl) (l_q (q_load Tryz.isAgg3 rfl (((hk.blk.gm hM0 hG0).has (o := 2) rfl)) rfl) (l_q (q_build (v := .agg ⟨[vint 0, vint s0]⟩) (fun w => by kernel_rfl) rfl) (l_o (o_alloct Tryz.zeroValue120 rfl rfl ?_)))))))))))))))))
 intro b1 w1 hzl1 hzr1 _ hb1 hty_b1 hE1
 have hne_wb_b1 : wb ≠ b1 := by have := hk.blk.lt; omega
 have hne_sb_b1 : sb ≠ b1 := by have := hk.sbk.lt; omega
 have hne_kb_b1 : kb ≠ b1 := by have := hk.kbk.lt; omega
 have hbs_b1 : w.heap.size ≤ b1 := Nat.le_trans hsz hzl1
 replace hM := hM.keep (hE1.block m hM.lt (by simp))
 replace hG0 := grown_trans hG0 (gm_ext hE1)
 replace hsz := Nat.le_trans hsz hE1.size
 refine l_o (o_storet (vs := [vint 0, vint s0]) (cs' := [vint 0, vint s0]) Tryz.sizeOf120 rfl rfl rfl rfl hb1 (Nat.le_of_ble_eq_true rfl) rfl rfl ?_)
 intro w2 hz2 hb1 hT2 hG2
 replace hsz : w.heap.size ≤ w2.heap.size := by rw [hz2]; exact hsz
 replace hM := hM.keep (hG2.block m hM.lt (by simp; omega))
 replace hG0 := gm_upd hG0 hG2 (by omega)
 replace hty_b1 := hT2 _ hty_b1
 refine l_nil (r_seq (r_region' (l_q (q_move (v := .pointer _) rfl rfl) (l_q (q_load_agg (n := 2) Tryz.isAgg120 Tryz.sizeOf120 rfl ((hb1.cells' (cs' := [_, _]) 0 2 rfl)) rfl rfl) (l_o (o_call Tryz.call56 rfl (cheap_ret cap can s0 s1 sa sc ns ka kc cs wb sb kb m hok hcn _ 0 s0 _ _ _ (Nat.le_refl _) (by omega) ⟨by omega, by omega⟩ (hk.gm hM0 hG0) hM hMemo) rfl ?_))))))
 rintro _ w3 ⟨rfl, esc3, ckc3, hMc3, hMm3, hGc3⟩
 replace hsz : w.heap.size ≤ w3.heap.size := Nat.le_trans hsz hGc3.size
 replace hG0 := gm_upd hG0 hGc3 (by omega)
 replace hb1 := hb1.upd hGc3 (by omega)
 replace hty_b1 := hty_b1.upd hGc3 (by omega)
 have hM := hMc3
 have hMemo := hMm3
 refine l_q (qai rfl rfl) (l_nil (r_forget [(0, .pointer _), (2, .slice _ _ _), (3, .int _ _), (5, .pointer _)] ⟨rfl, rfl, rfl, rfl, trivial⟩ (fun e4 => (r_seq (r_seq (r_region' (l_q (qmi rfl rfl) (l_q (q_geq rfl rfl rfl) (l_nil (r_cond rfl (fun hc5 => ?_) (fun hc5 => ?_)))))))))))
 ·
  replace hc5 := dt hc5
  have g21 : 524288 ≤ ch cap can s0 s1 ns cs 0 s0 := by omega
  refine r_seq (r_region' (l_q (qas rfl rfl) (l_q (qai rfl rfl) (l_q (qab rfl rfl) (l_nil (r_ret_ (vs := [.slice _ _ _, .int _ _, .bool _]) rfl Tryz.func29 rfl (.nil _) ⟨rfl, rfl, rfl, trivial⟩ ?_))))))
  exact ⟨⟨none, 0, [], 0, false, rfl, Row.nil _ _ _ _, (decide_eq_false (by omega)).symm, fun h => by cases h⟩, hG0⟩
 ·
  replace hc5 := dle hc5
  have g21 : ch cap can s0 s1 ns cs 0 s0 < 524288 := by omega
  refine r_skip (r_seq (r_region' (l_q (qmi rfl rfl) (l_q (qai rfl rfl) (l_nil (r_seq (r_block (r_rounds (α := Nat × Int × Int × (Option Addr) × Nat × (List Int)) (fun ⟨k, oil, lt, oa, oc, ys⟩ e wl => Knows e [(0, ptr wb 0), (2, .slice oa ((ys).length) oc), (3, vint (ch cap can s0 s1 ns cs 0 s0)), (5, ptr b1 0), (6, vint (ch cap can s0 s1 ns cs k oil))] ∧ (k ≤ ns.length) ∧ (0 ≤ oil ∧ oil ≤ 400) ∧ (ys.length = k) ∧ (LeastP cap can s0 s1 ns cs ys oil lt) ∧ (ch cap can s0 s1 ns cs 0 s0 = ch cap can s0 s1 ns cs k oil - lt) ∧ (0 ≤ lt ∧ lt ≤ 56 * (k : Int)) ∧ (wl.ownsRow w.heap.size 3 1 (.slice oa ((ys).length) oc) ((ys).length) ((ys).map vint)) ∧ (∃ es2 ck2, MapAt wl m es2 ck2 ∧ MemoL cap can s0 s1 ns cs es2) ∧ (Blk wl b1 [vint (k : Int), vint oil]) ∧ (w.grownBy wl (some m)) ∧ (TyAt wl b1 120) ∧ (w.heap.size ≤ wl.heap.size)) (fun ⟨k, oil, lt, oa, oc, ys⟩ => ns.length - k) ⟨0, s0, 0, none, 0, []⟩ ?_ ?_))))))))
  ·
   exact ⟨⟨rfl, rfl, rfl, rfl, rfl, trivial⟩, (Nat.zero_le _), ⟨by omega, by omega⟩, rfl, .nil, (by omega), ⟨by omega, by omega⟩, (World.ownsRow_nil _ _ _ _), ⟨_, _, hM, hMemo⟩, hb1, hG0, hty_b1, hsz⟩
  ·
   rintro ⟨k, oil, lt, oa, oc, ys⟩ el6 wl6 ⟨hkn, hk2, hoil, hyl, hlp, hleft, hlt, ho9, hM, hb1, hG0, hty_b1, hsz⟩ ih6
   obtain ⟨e6, rfl⟩ := knows_env hkn
   obtain ⟨es2, ck2, hM, hMemo⟩ := hM
   refine r_seq (r_seq (r_draw ext_refl' ext_trans' [0, 1, 2, 3, 4, 5, 6, 7, 8] [] 9 (by kernel_rfl) (by kernel_rfl) ?_))
   intro w7 _ hE7
   replace hG0 := grown_trans hG0 (gm_ext hE7)
   replace hb1 := hb1.ext hE7
   replace hty_b1 := hty_b1.ext hE7
   replace hM := hM.keep (hE7.block m hM.lt (by simp))
   replace ho9 := own_ext ho9 hE7
   replace hsz := Nat.le_trans hsz hE7.size
   refine m_q rfl rfl (fun w' hC' => q_fieldAddr (o' := 0) rfl fld120_0 rfl) (m_q rfl rfl (fun w' hC' => q_load Tryz.isAgg3 rfl (((hb1.has (o := 0) rfl).ext hC')) rfl) (m_q rfl rfl (fun w' hC' => q_move (v := .pointer _) rfl rfl) (m_q rfl rfl (fun w' hC' => q_nilCheck rfl rfl) (m_q rfl rfl (fun w' hC' => q_fieldAddr (o' := 0) rfl fld85_0 rfl) (m_q rfl rfl (fun w' hC' => q_fieldAddr (o' := 4) rfl fld46_3 rfl) (m_q rfl rfl (fun w' hC' => q_load Tryz.isAgg44 rfl ((((hk.blk.gm hM0 hG0).has (o := 4) rfl).ext hC')) rfl) (m_q rfl rfl (fun w' hC' => q_len rfl Tryz.underlying44 rfl rfl) (m_q rfl rfl (fun w' hC' => q_lss rfl rfl rfl) (m_nil (r_cond rfl (fun hc8 => ?_) (fun hc8 => ?_)))))))))))
   ·
    replace hc8 := dt hc8
    have hkl : k < ns.length := by omega
    obtain ⟨hq1, hq2, hq3⟩ := hok.at hkl
    have hwkn : wkN ns k = ((ns.getD k nt0).mo - (ns.getD k nt0).le + 1).toNat := rfl
    refine r_skip (r_block (r_seq (r_draw ext_refl' ext_trans' [0, 1, 2, 3, 4, 5, 6, 7] [6] 9 (by kernel_rfl) (by kernel_rfl) ?_)))
    intro w9 _ hE9
    replace hG0 := grown_trans hG0 (gm_ext hE9)
    replace hb1 := hb1.ext hE9
    replace hty_b1 := hty_b1.ext hE9
    replace hM := hM.keep (hE9.block m hM.lt (by simp))
    replace ho9 := own_ext ho9 hE9
    replace hsz := Nat.le_trans hsz hE9.size
    refine m_q rfl rfl (fun w' hC' => q_move (v := .pointer _) rfl rfl) (m_q rfl rfl (fun w' hC' => q_nilCheck rfl rfl) (m_q rfl rfl (fun w' hC' => q_fieldAddr (o' := 5) rfl fld85_1 rfl) (m_q rfl rfl (fun w' hC' => q_load Tryz.isAgg81 rfl ((((hk.blk.gm hM0 hG0).has (o := 5) rfl).ext hC')) rfl) (m_q rfl rfl (fun w' hC' => q_fieldAddr (o' := 0) rfl fld120_0 rfl) (m_q rfl rfl (fun w' hC' => q_load Tryz.isAgg3 rfl (((hb1.has (o := 0) rfl).ext hC')) rfl) (m_o rfl rfl (o_callv (f := 25) (fst := []) (cap := [_]) rfl Tryz.call25 rfl (trim1_ret cap can s0 s1 sa sc ns sb k _ (hk.gm hM0 hG0).rN (hk.gm hM0 hG0).sbk (by omega) (by omega)) rfl ?_)))))))
    rintro _ w10 ⟨rfl, hE10⟩
    refine ⟨hE10, ?_⟩
    replace hG0 := grown_trans hG0 (gm_ext hE10)
    replace hb1 := hb1.ext hE10
    replace hty_b1 := hty_b1.ext hE10
    replace hM := hM.keep (hE10.block m hM.lt (by simp))
    replace ho9 := own_ext ho9 hE10
    replace hsz := Nat.le_trans hsz hE10.size
    refine m_q rfl rfl (fun w' hC' => qai rfl rfl) (m_nil (r_forget [(0, .pointer _), (2, .slice _ _ _), (3, .int _ _), (5, .pointer _), (6, .int _ _), (7, .int _ _)] ⟨rfl, rfl, rfl, rfl, rfl, rfl, trivial⟩ (fun e11 => (r_block ?_))))
    refine r_rounds (α := Nat) (fun j e wl => Knows e [(0, ptr wb 0), (2, .slice oa ((ys).length) oc), (3, vint (ch cap can s0 s1 ns cs 0 s0)), (5, ptr b1 0), (6, vint (ch cap can s0 s1 ns cs k oil)), (7, vint ((ns.getD k nt0).le + (j : Int)))] ∧ (j ≤ wkN ns k) ∧ (∀ i, i < j → ¬ (stB cap can s0 s1 ns cs k ((ns.getD k nt0).le + (i : Int)) oil = true ∧ -((ns.getD k nt0).le + (i : Int)) * (ns.getD k nt0).h + ch cap can s0 s1 ns cs (k + 1) (stL cap can s0 s1 ns cs k ((ns.getD k nt0).le + (i : Int)) oil) = ch cap can s0 s1 ns cs k oil)) ∧ (∃ es3 ck3, MapAt wl m es3 ck3 ∧ MemoL cap can s0 s1 ns cs es3) ∧ (w.grownBy wl (some m)) ∧ (Blk wl b1 [vint (k : Int), vint oil]) ∧ (TyAt wl b1 120) ∧ (wl.ownsRow w.heap.size 3 1 (.slice oa ((ys).length) oc) ((ys).length) ((ys).map vint)) ∧ (w.heap.size ≤ wl.heap.size)) (fun j => wkN ns k - j) 0 ?_ ?_
    ·
     exact ⟨⟨rfl, rfl, rfl, rfl, rfl, (vint_eq (by omega)), trivial⟩, (Nat.zero_le _), (fun i hi => absurd hi (Nat.not_lt_zero _)), ⟨_, _, hM, hMemo⟩, hG0, hb1, hty_b1, ho9, hsz⟩
    ·
     rintro j el12 wl12 ⟨hkn, hj, hno, hM, hG0, hb1, hty_b1, ho9, hsz⟩ ih12
     obtain ⟨e12, rfl⟩ := knows_env hkn
     obtain ⟨es3, ck3, hM, hMemo⟩ := hM
     refine r_seq (r_seq (r_draw ext_refl' ext_trans' [0, 1, 2, 3, 4, 5, 6, 7, 8] [7] 9 (by kernel_rfl) (by kernel_rfl) ?_))
     intro w13 _ hE13
     replace hG0 := grown_trans hG0 (gm_ext hE13)
     replace hb1 := hb1.ext hE13
     replace hty_b1 := hty_b1.ext hE13
     replace hM := hM.keep (hE13.block m hM.lt (by simp))
     replace ho9 := own_ext ho9 hE13
     replace hsz := Nat.le_trans hsz hE13.size
     refine m_q rfl rfl (fun w' hC' => qmi rfl rfl) (m_q rfl rfl (fun w' hC' => q_move (v := .pointer _) rfl rfl) (m_q rfl rfl (fun w' hC' => q_nilCheck rfl rfl) (m_q rfl rfl (fun w' hC' => q_fieldAddr (o' := 6) rfl fld85_2 rfl) (m_q rfl rfl (fun w' hC' => q_load Tryz.isAgg81 rfl ((((hk.blk.gm hM0 hG0).has (o := 6) rfl).ext hC')) rfl) (m_q rfl rfl (fun w' hC' => q_fieldAddr (o' := 0) rfl fld120_0 rfl) (m_q rfl rfl (fun w' hC' => q_load Tryz.isAgg3 rfl (((hb1.has (o := 0) rfl).ext hC')) rfl) (m_o rfl rfl (o_callv (f := 26) (fst := []) (cap := [_]) rfl Tryz.call26 rfl (trim2_ret cap can s0 s1 sa sc ns sb k _ (hk.gm hM0 hG0).rN (hk.gm hM0 hG0).sbk (by omega) (by omega)) rfl ?_))))))))
     rintro _ w14 ⟨rfl, hE14⟩
     refine ⟨hE14, ?_⟩
     replace hG0 := grown_trans hG0 (gm_ext hE14)
     replace hb1 := hb1.ext hE14
     replace hty_b1 := hty_b1.ext hE14
     replace hM := hM.keep (hE14.block m hM.lt (by simp))
     replace ho9 := own_ext ho9 hE14
     replace hsz := Nat.le_trans hsz hE14.size
     refine m_q rfl rfl (fun w' hC' => q_leq rfl rfl rfl) (m_nil (r_cond rfl (fun hc15 => ?_) (fun hc15 => ?_)))
     ·
      replace hc15 := dt hc15
      have hjK : j < wkN ns k := by omega
      refine r_skip (r_seq (r_block (r_seq ?_)))
      have hlb := stL_bnd (n := (ns.getD k nt0).le + (j : Int)) hok hcn hkl (by omega) hoil
      refine r_region' (l_q (q_move (v := .pointer _) rfl rfl) (l_q (q_load_agg (n := 2) Tryz.isAgg120 Tryz.sizeOf120 rfl ((hb1.cells' (cs' := [_, _]) 0 2 rfl)) rfl rfl) (l_q (qmi rfl rfl) (l_o (o_call Tryz.call57 rfl (step_ret cap can s0 s1 sa sc ns ka kc cs wb sb kb m k oil ((ns.getD k nt0).le + (j : Int)) _ hok hcn (hk.gm hM0 hG0) (by omega) (by omega) (by omega)) rfl ?_)))))
      rintro _ w16 ⟨rfl, hE16⟩
      replace hG0 := grown_trans hG0 (gm_ext hE16)
      replace hb1 := hb1.ext hE16
      replace hty_b1 := hty_b1.ext hE16
      replace hM := hM.keep (hE16.block m hM.lt (by simp))
      replace ho9 := own_ext ho9 hE16
      replace hsz := Nat.le_trans hsz hE16.size
      refine l_q (q_move (v := .tuple _) rfl rfl) (l_q (q_extract (vs := [_, _]) (v := .agg _) rfl rfl rfl) (l_q (q_extract (vs := [_, _]) (v := .bool _) rfl rfl rfl) (l_o (o_alloct Tryz.zeroValue120 rfl rfl ?_))))
      intro b17 w17 hzl17 hzr17 _ hb17 hty_b17 hE17
      have hne_wb_b17 : wb ≠ b17 := by have := hk.blk.lt; omega
      have hne_sb_b17 : sb ≠ b17 := by have := hk.sbk.lt; omega
      have hne_kb_b17 : kb ≠ b17 := by have := hk.kbk.lt; omega
      have hne_b1_b17 : b1 ≠ b17 := by have := hb1.lt; omega
      have hbs_b17 : w.heap.size ≤ b17 := Nat.le_trans hsz hzl17
      replace hG0 := grown_trans hG0 (gm_ext hE17)
      replace hb1 := hb1.ext hE17
      replace hty_b1 := hty_b1.ext hE17
      replace hM := hM.keep (hE17.block m hM.lt (by simp))
      replace ho9 := own_ext ho9 hE17
      replace hsz := Nat.le_trans hsz hE17.size
      refine l_o (o_storet (vs := [vint ((k + 1 : Nat) : Int), vint (stL cap can s0 s1 ns cs k ((ns.getD k nt0).le + (j : Int)) oil)]) (cs' := [vint ((k + 1 : Nat) : Int), vint (stL cap can s0 s1 ns cs k ((ns.getD k nt0).le + (j : Int)) oil)]) Tryz.sizeOf120 rfl rfl rfl rfl hb17 (Nat.le_of_ble_eq_true rfl) rfl rfl ?_)
      intro w18 hz18 hb17 hT18 hG18
      replace hsz : w.heap.size ≤ w18.heap.size := by rw [hz18]; exact hsz
      replace hG0 := gm_upd hG0 hG18 (by omega)
      replace hb1 := hb1.upd hG18 (by omega)
      replace hty_b1 := hty_b1.upd hG18 (by omega)
      replace hM := hM.keep (hG18.block m hM.lt (by simp; omega))
      replace ho9 := own_ty_upd ho9 hty_b17 hG18 (by decide)
      replace hty_b17 := hT18 _ hty_b17
      refine l_q (qab rfl rfl) (l_nil (r_forget [(0, .pointer _), (2, .slice _ _ _), (3, .int _ _), (5, .pointer _), (6, .int _ _), (7, .int _ _), (8, .pointer _), (9, .bool _)] ⟨rfl, rfl, rfl, rfl, rfl, rfl, rfl, rfl, trivial⟩ (fun e19 => (r_seq ?_))))
      have hfb := ch_bnd (cs := cs) (oil := stL cap can s0 s1 ns cs k ((ns.getD k nt0).le + (j : Int)) oil) hok (show k + 1 ≤ ns.length by omega)
      have hcb := cost_bnd hq1 (show 0 ≤ (ns.getD k nt0).le + (j : Int) ∧ (ns.getD k nt0).le + (j : Int) ≤ 4 by omega)
      refine r_draw (gm_refl m) (gm_trans m) [0, 1, 2, 3, 4, 5, 6, 7, 8, 10, 11, 14, 9, 12, 13, 15, 16] [9, 12] 18 (by kernel_rfl) (by kernel_rfl) ?_
      intro w20 _ hE20
      replace hG0 := grown_trans hG0 (gm_ext hE20)
      replace hb1 := hb1.ext hE20
      replace hty_b1 := hty_b1.ext hE20
      replace hM := hM.keep (hE20.block m hM.lt (by simp))
      replace ho9 := own_ext ho9 hE20
      replace hb17 := hb17.ext hE20
      replace hty_b17 := hty_b17.ext hE20
      replace hsz := Nat.le_trans hsz hE20.size
      refine m_q rfl rfl (fun w' hC' => qmb rfl rfl) (m_q rfl rfl (fun w' hC' => qmb rfl rfl) (m_part 58 rfl (fun hc21 => ?_) (fun hc21 => ?_)))
      ·
       have hlit := hc21
       refine m_q rfl rfl (fun w' hC' => q_move (v := .pointer _) rfl rfl) (m_q rfl rfl (fun w' hC' => q_nilCheck rfl rfl) (m_q rfl rfl (fun w' hC' => q_fieldAddr (o' := 7) rfl fld85_3 rfl) (m_q rfl rfl (fun w' hC' => q_load Tryz.isAgg82 rfl ((((hk.blk.gm hM0 hG0).gm hM hC').has (o := 7) rfl)) rfl) (m_q rfl rfl (fun w' hC' => q_fieldAddr (o' := 0) rfl fld120_0 rfl) (m_q rfl rfl (fun w' hC' => q_load Tryz.isAgg3 rfl (((hb1.gm hM hC').has (o := 0) rfl)) rfl) (m_q rfl rfl (fun w' hC' => qmi rfl rfl) (m_q rfl rfl (fun w' hC' => q_move (v := .pointer _) rfl rfl) (m_q rfl rfl (fun w' hC' => q_load_agg (n := 2) Tryz.isAgg120 Tryz.sizeOf120 rfl (((hb17.gm hM hC').cells' (cs' := [_, _]) 0 2 rfl)) rfl rfl) (m_q rfl rfl (fun w' hC' => qmi rfl rfl) ?_)))))))))
       refine m_o rfl rfl (o_callv (f := 27) (fst := []) (cap := [_]) rfl Tryz.call27 rfl (trim3_ret cap can s0 s1 sa sc ns sb k ((ns.getD k nt0).le + (j : Int)) _ (hk.gm hM0 hG0).rN (hk.gm hM0 hG0).sbk hok (by omega) (by omega)) rfl ?_)
       rintro _ w22 ⟨rfl, hE22⟩
       refine ⟨(gm_ext hE22), ?_⟩
       replace hG0 := grown_trans hG0 (gm_ext hE22)
       replace hb1 := hb1.ext hE22
       replace hty_b1 := hty_b1.ext hE22
       replace hM := hM.keep (hE22.block m hM.lt (by simp))
       replace ho9 := own_ext ho9 hE22
       replace hb17 := hb17.ext hE22
       replace hty_b17 := hty_b17.ext hE22
       replace hsz := Nat.le_trans hsz hE22.size
       refine m_o rfl rfl (o_call Tryz.call56 rfl (cheap_ret cap can s0 s1 sa sc ns ka kc cs wb sb kb m hok hcn _ (k + 1) (stL cap can s0 s1 ns cs k ((ns.getD k nt0).le + (j : Int)) oil) _ _ _ (Nat.le_refl _) (by omega) hlb (hk.gm hM0 hG0) hM hMemo) rfl ?_)
       rintro _ w23 ⟨rfl, esc23, ckc23, hMc23, hMm23, hGc23⟩
       refine ⟨hGc23, ?_⟩
       replace hsz : w.heap.size ≤ w23.heap.size := Nat.le_trans hsz hGc23.size
       replace hG0 := gm_upd hG0 hGc23 (by omega)
       replace hb1 := hb1.upd hGc23 (by omega)
       replace hty_b1 := hty_b1.upd hGc23 (by omega)
       replace ho9 := own_gm ho9 hM hGc23
       replace hb17 := hb17.upd hGc23 (by omega)
       replace hty_b17 := hty_b17.upd hGc23 (by omega)
       have hM := hMc23
       have hMemo := hMm23
       refine m_q rfl rfl (fun w' hC' => q_add rfl rfl (by omega) rfl) (m_q rfl rfl (fun w' hC' => q_eql rfl rfl rfl) (m_q rfl rfl (fun w' hC' => q_pick_t (v := .bool _) rfl rfl rfl) (m_nil (r_forget [(0, .pointer _), (2, .slice _ _ _), (3, .int _ _), (5, .pointer _), (6, .int _ _), (7, .int _ _), (8, .pointer _), (73, .bool _)] ⟨rfl, rfl, rfl, rfl, rfl, rfl, rfl, rfl, trivial⟩ (fun e24 => (r_cond rfl (fun hc25 => ?_) (fun hc25 => ?_)))))))
       ·
        replace hc25 := dt hc25
        have heq := hc25
        refine r_seq ?_
        have hcb := cost_bnd hq1 (show 0 ≤ (ns.getD k nt0).le + (j : Int) ∧ (ns.getD k nt0).le + (j : Int) ≤ 4 by omega)
        have hfb := ch_bnd (cs := cs) (oil := oil) hok (show k ≤ ns.length by omega)
        refine r_draw3 (Cls3.refl b1 b17 wb [vint (k : Int), vint oil] [vint ((k + 1 : Nat) : Int), vint (stL cap can s0 s1 ns cs k ((ns.getD k nt0).le + (j : Int)) oil)] [vint cap, vint can, vint s0, vint s1, .slice sa ns.length sc, .func (.func 25) ⟨[]⟩ ⟨[ptr sb 0]⟩, .func (.func 26) ⟨[]⟩ ⟨[ptr sb 0]⟩, .func (.func 27) ⟨[]⟩ ⟨[ptr sb 0]⟩, .func (.func 28) ⟨[]⟩ ⟨[ptr kb 0]⟩, .map (some m)]) (Cls3.trans b1 b17 wb [vint (k : Int), vint oil] [vint ((k + 1 : Nat) : Int), vint (stL cap can s0 s1 ns cs k ((ns.getD k nt0).le + (j : Int)) oil)] [vint cap, vint can, vint s0, vint s1, .slice sa ns.length sc, .func (.func 25) ⟨[]⟩ ⟨[ptr sb 0]⟩, .func (.func 26) ⟨[]⟩ ⟨[ptr sb 0]⟩, .func (.func 27) ⟨[]⟩ ⟨[ptr sb 0]⟩, .func (.func 28) ⟨[]⟩ ⟨[ptr kb 0]⟩, .map (some m)]) (.op 0 (.op 1 (.op 4 (.op 5 (.op 6 (.op 7 (.op 8 (.op 9 (.op 10 (.op 11 (.op 14 (.op 2 (.op 3 (.op 12 (.op 13 (.op 15 (.op 16 (.op 17 (.done))))))))))))))))))) [2, 3, 12, 17, 1017] 18 (by kernel_rfl) (by kernel_rfl) ?_
        intro w26 _ hE26
        replace hG0 := grown_trans hG0 (gm_ext hE26)
        replace hb1 := hb1.ext hE26
        replace hty_b1 := hty_b1.ext hE26
        replace ho9 := own_ext ho9 hE26
        replace hb17 := hb17.ext hE26
        replace hty_b17 := hty_b17.ext hE26
        replace hM := hM.keep (hE26.block m hM.lt (by simp))
        replace hsz := Nat.le_trans hsz hE26.size
        refine m_q3 rfl rfl (fun w' hC' => qms rfl rfl) (m_q3 rfl rfl (fun w' hC' => qmi rfl rfl) (m_q3 rfl rfl (fun w' hC' => qmi rfl rfl) (m_q3 rfl rfl (fun w' hC' => q_move (v := .pointer _) rfl rfl) (m_q3 rfl rfl (fun w' hC' => q_nilCheck rfl rfl) (m_q3 rfl rfl (fun w' hC' => q_fieldAddr (o' := 7) rfl fld85_3 rfl) (m_q3 rfl rfl (fun w' hC' => q_load Tryz.isAgg82 rfl (((hC'.2.2 (hk.blk.gm hM0 hG0)).has (o := 7) rfl)) rfl) (m_q3 rfl rfl (fun w' hC' => q_fieldAddr (o' := 0) rfl fld120_0 rfl) (m_q3 rfl rfl (fun w' hC' => q_load Tryz.isAgg3 rfl (((hC'.1 hb1).has (o := 0) rfl)) rfl) (m_q3 rfl rfl (fun w' hC' => qmi rfl rfl) (m_q3 rfl rfl (fun w' hC' => q_load_agg (n := 2) Tryz.isAgg120 Tryz.sizeOf120 rfl (((hC'.2.1 hb17).cells' (cs' := [_, _]) 0 2 rfl)) rfl rfl) ?_))))))))))
        refine m_o3 rfl rfl (o_buildSlice (el := 3) (cs := [vint ((ns.getD k nt0).le + (j : Int))]) Tryz.underlying27 el3 (by decide) (by kernel_rfl) rfl (by decide) rfl ?_)
        intro b27 w27 hzl27 hzr27 _ hb27 hE27 ho27
        refine ⟨(Cls3.ext hE27), ?_⟩
        have hne_wb_b27 : wb ≠ b27 := by have := hk.blk.lt; omega
        have hne_sb_b27 : sb ≠ b27 := by have := hk.sbk.lt; omega
        have hne_kb_b27 : kb ≠ b27 := by have := hk.kbk.lt; omega
        have hne_b1_b27 : b1 ≠ b27 := by have := hb1.lt; omega
        have hne_b17_b27 : b17 ≠ b27 := by have := hb17.lt; omega
        have hbs_b27 : w.heap.size ≤ b27 := Nat.le_trans hsz hzl27
        replace hG0 := grown_trans hG0 (gm_ext hE27)
        replace hb1 := hb1.ext hE27
        replace hty_b1 := hty_b1.ext hE27
        replace ho9 := own_ext ho9 hE27
        replace hty_b17 := hty_b17.ext hE27
        replace hM := hM.keep (hE27.block m hM.lt (by simp))
        replace hsz := Nat.le_trans hsz hE27.size
        refine m_o3 rfl rfl (o_append_map (f := vint) (ys) ([(ns.getD k nt0).le + (j : Int)]) Tryz.underlying27 el3 rfl rfl ho9 rfl (Row.of_owns ho27) (fun _ => rfl) (by (try simp only [List.length_append, List.length_cons, List.length_nil, List.length_take, List.length_drop, List.length_replicate]); omega) (by omega) rfl ?_)
        intro a28 c28 w28 hz28 ho28 hG28
        refine ⟨⟨fun h => h.step hG28 (own_ty_ne ho9 hty_b1 (by decide)), fun h => h.step hG28 (own_ty_ne ho9 hty_b17 (by decide)), fun h => h.step hG28 (own_ne ho9 (by omega))⟩, ?_⟩
        replace hsz := Nat.le_trans hsz hG28.size
        replace hG0 := grown_own hG0 ho9 hG28 (by omega)
        replace hb1 := hb1.step hG28 (own_ty_ne ho9 hty_b1 (by decide))
        replace hM := mapAt_own hM ho9 hG28
        replace hty_b1 := TyAt.own hty_b1 ho9 hG28 (by decide)
        refine m_o3 rfl rfl (o_callv (f := 27) (fst := []) (cap := [_]) rfl Tryz.call27 rfl (trim3_ret cap can s0 s1 sa sc ns sb k ((ns.getD k nt0).le + (j : Int)) _ (hk.gm hM0 hG0).rN (hk.gm hM0 hG0).sbk hok (by omega) (by omega)) rfl ?_)
        rintro _ w29 ⟨rfl, hE29⟩
        refine ⟨(Cls3.ext hE29), ?_⟩
        replace hG0 := grown_trans hG0 (gm_ext hE29)
        replace hb1 := hb1.ext hE29
        replace hty_b1 := hty_b1.ext hE29
        replace hM := hM.keep (hE29.block m hM.lt (by simp))
        replace ho28 := own_ext ho28 hE29
        replace hsz := Nat.le_trans hsz hE29.size
        refine m_q3 rfl rfl (fun w' hC' => q_sub rfl rfl (by omega) rfl) (m_q3 rfl rfl (fun w' hC' => qas rfl rfl) (m_q3 rfl rfl (fun w' hC' => qai rfl rfl) (m_last3 rfl rfl rfl (o_storet (vs := [vint ((k + 1 : Nat) : Int), vint (stL cap can s0 s1 ns cs k ((ns.getD k nt0).le + (j : Int)) oil)]) (cs' := [vint ((k + 1 : Nat) : Int), vint (stL cap can s0 s1 ns cs k ((ns.getD k nt0).le + (j : Int)) oil)]) Tryz.sizeOf120 rfl rfl rfl rfl hb1 (Nat.le_of_ble_eq_true rfl) rfl rfl ?_))))
        intro w30 hz30 hb1 hT30 hG30
        replace hsz : w.heap.size ≤ w30.heap.size := by rw [hz30]; exact hsz
        replace hG0 := gm_upd hG0 hG30 (by omega)
        replace hM := hM.keep (hG30.block m hM.lt (by simp; omega))
        replace ho28 := own_ty_upd ho28 hty_b1 hG30 (by decide)
        replace hty_b1 := hT30 _ hty_b1
        refine m_nil3 (r_forget [(0, .pointer _), (2, .slice _ _ _), (3, .int _ _), (5, .pointer _), (6, .int _ _)] ⟨rfl, rfl, rfl, rfl, rfl, trivial⟩ (fun e31 => (r_exit rfl (r_inBlock ?_))))
        exact ih6 ⟨k + 1, stL cap can s0 s1 ns cs k ((ns.getD k nt0).le + (j : Int)) oil, lt + ((ns.getD k nt0).le + (j : Int)) * (ns.getD k nt0).h, a28, c28, ys ++ [(ns.getD k nt0).le + (j : Int)]⟩ _ _ ⟨⟨rfl, rfl, rfl, rfl, (vint_eq (by omega)), trivial⟩, (by omega), hlb, (by rw [List.length_append, hyl]; rfl), (hlp.at hyl hkl (by omega) hlit), (by have := Int.neg_mul ((ns.getD k nt0).le + (j : Int)) (ns.getD k nt0).h; omega), (by have := Int.neg_mul ((ns.getD k nt0).le + (j : Int)) (ns.getD k nt0).h; omega), ho28, ⟨_, _, hM, hMemo⟩, hb1, hG0, hty_b1, hsz⟩ (by first | omega | (dsimp only; omega))
       ·
        replace hc25 := df hc25
        have hneq := hc25
        refine r_skip (r_inBlock (r_region' (l_q (qmi rfl rfl) (l_q (q_add rfl rfl (by omega) rfl) (l_q (qai rfl rfl) (l_nil ?_))))))
        exact ih12 (j + 1) _ _ ⟨⟨rfl, rfl, rfl, rfl, rfl, (vint_eq (by omega)), trivial⟩, (by omega), (fun i hi => by rcases Nat.lt_succ_iff_lt_or_eq.1 hi with h | h; exact hno i h; subst h; intro h; first | exact absurd (h.1.symm.trans hlit) (by decide) | omega), ⟨_, _, hM, hMemo⟩, hG0, hb1, hty_b1, ho9, hsz⟩ (by first | omega | (dsimp only; omega))
      ·
       have hlit := hc21
       refine m_q rfl rfl (fun w' hC' => q_skip rfl) (m_q rfl rfl (fun w' hC' => q_skip rfl) (m_q rfl rfl (fun w' hC' => q_skip rfl) (m_q rfl rfl (fun w' hC' => q_skip rfl) (m_q rfl rfl (fun w' hC' => q_skip rfl) (m_q rfl rfl (fun w' hC' => q_skip rfl) (m_q rfl rfl (fun w' hC' => q_skip rfl) (m_q rfl rfl (fun w' hC' => q_skip rfl) (m_q rfl rfl (fun w' hC' => q_skip rfl) (m_q rfl rfl (fun w' hC' => q_skip rfl) (m_o rfl rfl ((q_skip rfl).eff ⟨(gm_refl m _), ?_⟩)))))))))))
       refine m_o rfl rfl ((q_skip rfl).eff ⟨(gm_refl m _), ?_⟩)
       refine m_q rfl rfl (fun w' hC' => q_skip rfl) (m_q rfl rfl (fun w' hC' => q_skip rfl) (m_q rfl rfl (fun w' hC' => q_pick_f (v := .bool _) rfl rfl rfl) (m_nil (r_forget [(0, .pointer _), (2, .slice _ _ _), (3, .int _ _), (5, .pointer _), (6, .int _ _), (7, .int _ _), (8, .pointer _), (73, .bool _)] ⟨rfl, rfl, rfl, rfl, rfl, rfl, rfl, rfl, trivial⟩ (fun e32 => (r_cond_f rfl (r_skip (r_inBlock (r_region' (l_q (qmi rfl rfl) (l_q (q_add rfl rfl (by omega) rfl) (l_q (qai rfl rfl) (l_nil ?_)))))))))))))
       exact ih12 (j + 1) _ _ ⟨⟨rfl, rfl, rfl, rfl, rfl, (vint_eq (by omega)), trivial⟩, (by omega), (fun i hi => by rcases Nat.lt_succ_iff_lt_or_eq.1 hi with h | h; exact hno i h; subst h; intro h; first | exact absurd (h.1.symm.trans hlit) (by decide) | omega), ⟨_, _, hM, hMemo⟩, hG0, hb1, hty_b1, ho9, hsz⟩ (by first | omega | (dsimp only; omega))
     ·
      replace hc15 := dle hc15
      exact (ch_never hkl (by omega) (fun i hi => hno i (by omega))).elim
   ·
    replace hc8 := dlt hc8
    refine r_exit rfl (r_seq (r_region' (l_q (qms rfl rfl) (l_q (qmi rfl rfl) (l_q (qas rfl rfl) (l_q (qai rfl rfl) (l_q (qab rfl rfl) (l_nil (r_forget [(2, .slice _ _ _), (3, .int _ _), (4, .bool _)] ⟨rfl, rfl, rfl, trivial⟩ (fun e33 => (r_ret_ (vs := [.slice _ _ _, .int _ _, .bool _]) rfl Tryz.func29 rfl (.nil _) ⟨rfl, rfl, rfl, trivial⟩ ?_)))))))))))
    have hke : k = ns.length := by omega
    have hz := ch_end (cap := cap) (can := can) (s0 := s0) (s1 := s1) (ns := ns) (cs := cs) (k := k) (oil := oil) (by omega)
    exact ⟨⟨_, _, ys, _, true, rfl, Row.of_owns ho9, (decide_eq_true (by omega)).symm, fun _ => ⟨oil, lt, hlp, by omega, by omega, rfl⟩⟩, hG0⟩
end Go.Proofs.YtbikicakdkbcgabGreat
