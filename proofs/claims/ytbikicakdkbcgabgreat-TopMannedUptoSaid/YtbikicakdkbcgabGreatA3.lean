/- Contracts. -/
import Derived.Test.YtbikicakdkbcgabGreatA2
import Derived.Test.YtbikicakdkbcgabGreatR7
import Derived.Test.YtbikicakdkbcgabGreatF13
import Derived.Test.YtbikicakdkbcgabGreatGvSpot
set_option linter.unusedVariables false
set_option linter.unusedSimpArgs false
namespace Go.Proofs.YtbikicakdkbcgabGreat
open Go Go.RowKit Go.Gv Go.Fl
/-! ### The cheapest way from a night on -/
def cstep (cap can s0 s1 : Int) (ns : List NT) (cs : List Int) (rec : Nat → Int → Int) (k : Nat) (oil b : Int) (j : Nat) : Int :=
  if stB cap can s0 s1 ns cs k ((ns.getD k nt0).le + (j : Int)) oil = true then min b (-((ns.getD k nt0).le + (j : Int)) * (ns.getD k nt0).h + rec (k + 1) (stL cap can s0 s1 ns cs k ((ns.getD k nt0).le + (j : Int)) oil)) else b
def wkN (ns : List NT) (k : Nat) : Nat := ((ns.getD k nt0).mo - (ns.getD k nt0).le + 1).toNat
def chN (cap can s0 s1 : Int) (ns : List NT) (cs : List Int) : Nat → Nat → Int → Int
  | 0, _, _ => 0
  | f + 1, k, oil => (List.range (wkN ns k)).foldl (cstep cap can s0 s1 ns cs (chN cap can s0 s1 ns cs f) k oil) 1048576
def ch (cap can s0 s1 : Int) (ns : List NT) (cs : List Int) (k : Nat) (oil : Int) : Int := chN cap can s0 s1 ns cs (ns.length - k) k oil
def chA (cap can s0 s1 : Int) (ns : List NT) (cs : List Int) (k : Nat) (oil : Int) (j : Nat) : Int := (List.range j).foldl (cstep cap can s0 s1 ns cs (ch cap can s0 s1 ns cs) k oil) 1048576
section
variable {cap can s0 s1 : Int} {ns : List NT} {cs : List Int} {k j : Nat} {oil : Int}
theorem ch_end (h : ns.length ≤ k) : ch cap can s0 s1 ns cs k oil = 0 := by unfold ch; rw [Nat.sub_eq_zero_of_le h]; rfl
theorem ch_all (h : k < ns.length) : ch cap can s0 s1 ns cs k oil = chA cap can s0 s1 ns cs k oil (wkN ns k) := by
  obtain ⟨f, hf⟩ : ∃ f, ns.length - k = f + 1 := ⟨ns.length - k - 1, by omega⟩
  unfold ch chA
  rw [hf, chN]
  have : cstep cap can s0 s1 ns cs (chN cap can s0 s1 ns cs f) k oil = cstep cap can s0 s1 ns cs (ch cap can s0 s1 ns cs) k oil := by
    funext b j
    unfold cstep ch
    rw [show ns.length - (k + 1) = f by omega]
  rw [this]
theorem chA_succ : chA cap can s0 s1 ns cs k oil (j + 1) = cstep cap can s0 s1 ns cs (ch cap can s0 s1 ns cs) k oil (chA cap can s0 s1 ns cs k oil j) j := by
  unfold chA
  rw [List.range_succ, List.foldl_append]; rfl
theorem chA_yes (h : stB cap can s0 s1 ns cs k ((ns.getD k nt0).le + (j : Int)) oil = true) : minOf [chA cap can s0 s1 ns cs k oil j, -((ns.getD k nt0).le + (j : Int)) * (ns.getD k nt0).h + ch cap can s0 s1 ns cs (k + 1) (stL cap can s0 s1 ns cs k ((ns.getD k nt0).le + (j : Int)) oil)] = chA cap can s0 s1 ns cs k oil (j + 1) := by
  rw [min_two, chA_succ, cstep, if_pos h]
theorem chA_no (h : stB cap can s0 s1 ns cs k ((ns.getD k nt0).le + (j : Int)) oil = false) : chA cap can s0 s1 ns cs k oil j = chA cap can s0 s1 ns cs k oil (j + 1) := by
  rw [chA_succ, cstep, if_neg (by rw [h]; decide)]
theorem lfold_ge {f : Int → Nat → Int} {B : Int} : ∀ (l : List Nat) (b : Int), (∀ j ∈ l, ∀ x, B ≤ x → B ≤ f x j) → B ≤ b → B ≤ l.foldl f b
  | [], _, _, h => h
  | j :: l, b, hf, h => lfold_ge l _ (fun i hi => hf i (by simp [hi])) (hf j (by simp) b h)
theorem lfold_le {f : Int → Nat → Int} (hf : ∀ x j, f x j ≤ x) : ∀ (l : List Nat) (b : Int), l.foldl f b ≤ b
  | [], _ => Int.le_refl _
  | j :: l, b => Int.le_trans (lfold_le hf l _) (hf b j)
theorem cstep_le {rec : Nat → Int → Int} {b : Int} : cstep cap can s0 s1 ns cs rec k oil b j ≤ b := by unfold cstep; split <;> omega
theorem wk_rng (hok : OkS cap can s0 s1 ns) (hk : k < ns.length) (hj : j < wkN ns k) : 0 ≤ (ns.getD k nt0).le + (j : Int) ∧ (ns.getD k nt0).le + (j : Int) ≤ 4 := by
  have h := hok.at hk
  unfold wkN at hj
  omega
theorem chN_bnd (hok : OkS cap can s0 s1 ns) : ∀ (f k : Nat) (oil : Int), k + f = ns.length → -56 * (f : Int) ≤ chN cap can s0 s1 ns cs f k oil ∧ chN cap can s0 s1 ns cs f k oil ≤ 1048576
  | 0, _, _, _ => ⟨Int.le_refl _, show (0 : Int) ≤ 1048576 by decide⟩
  | f + 1, k, oil, h => by
    have h6 := hok.six
    refine ⟨lfold_ge _ _ (fun j hj x hx => ?_) (by omega), lfold_le (fun x j => cstep_le) _ _⟩
    have hj := List.mem_range.1 hj
    unfold cstep
    split
    · have h1 := chN_bnd hok f (k + 1) (stL cap can s0 s1 ns cs k ((ns.getD k nt0).le + (j : Int)) oil) (by omega)
      have h2 := cost_bnd (hok.at (k := k) (by omega)).1 (wk_rng hok (by omega) hj)
      omega
    · exact hx
theorem ch_bnd (hok : OkS cap can s0 s1 ns) (hk : k ≤ ns.length) : -336 ≤ ch cap can s0 s1 ns cs k oil ∧ ch cap can s0 s1 ns cs k oil ≤ 1048576 := by
  have h6 := hok.six
  have := chN_bnd (cs := cs) hok (ns.length - k) k oil (by omega)
  unfold ch
  omega
/-- what is found is never, or is reached -/
theorem chA_hit : ∀ {j : Nat}, chA cap can s0 s1 ns cs k oil j = 1048576 ∨ ∃ i, i < j ∧ stB cap can s0 s1 ns cs k ((ns.getD k nt0).le + (i : Int)) oil = true ∧ -((ns.getD k nt0).le + (i : Int)) * (ns.getD k nt0).h + ch cap can s0 s1 ns cs (k + 1) (stL cap can s0 s1 ns cs k ((ns.getD k nt0).le + (i : Int)) oil) = chA cap can s0 s1 ns cs k oil j
  | 0 => .inl rfl
  | j + 1 => by
    rw [chA_succ, cstep]
    split
    · rename_i h
      rcases Int.le_total (chA cap can s0 s1 ns cs k oil j) (-((ns.getD k nt0).le + (j : Int)) * (ns.getD k nt0).h + ch cap can s0 s1 ns cs (k + 1) (stL cap can s0 s1 ns cs k ((ns.getD k nt0).le + (j : Int)) oil)) with h2 | h2
      · rw [Int.min_eq_left h2]
        rcases chA_hit (j := j) with h3 | ⟨i, h3, h4⟩
        · exact .inl h3
        · exact .inr ⟨i, by omega, h4⟩
      · rw [Int.min_eq_right h2]
        exact .inr ⟨j, by omega, h, rfl⟩
    · rcases chA_hit (j := j) with h3 | ⟨i, h3, h4⟩
      · exact .inl h3
      · exact .inr ⟨i, by omega, h4⟩
def MemoL (cap can s0 s1 : Int) (ns : List NT) (cs : List Int) (es : List MapEntry) : Prop := ∀ en ∈ es, ∃ (k : Nat) (x : Int), en.key = .agg ⟨[vint (k : Int), vint x]⟩ ∧ en.val = vint (ch cap can s0 s1 ns cs k x)
theorem memoL_nil : MemoL cap can s0 s1 ns cs [] := fun _ h => by simp at h
theorem lkey_inj {a b c d : Int} (h : Value.agg ⟨[vint a, vint b]⟩ = .agg ⟨[vint c, vint d]⟩) : a = c ∧ b = d := by
  simp only [vint, Value.agg.injEq, Array.mk.injEq, List.cons.injEq, Value.int.injEq, and_true, true_and] at h
  exact h
theorem lpTy : PairTy Tryz.prog 120 3 := ⟨⟨_, _, Tryz.underlying120, ⟨by decide, rfl, rfl⟩, ⟨by decide, rfl, rfl⟩⟩, ⟨_, Tryz.underlying3⟩, Tryz.isAgg3, Tryz.isAgg120, Tryz.sizeOf120, by kernel_rfl, by kernel_rfl, by kernel_rfl⟩
variable {es es' : List MapEntry}
theorem asks_lp (h : MemoL cap can s0 s1 ns cs es) (a b : Int) : Asks Tryz.prog 120 (.agg ⟨[vint a, vint b]⟩) es := fun en hen => by
  obtain ⟨c, d, h1, _⟩ := h en hen
  refine ⟨decide (a = c) && decide (b = d), fun w => by rw [h1]; exact lpTy.equal (d := 9998) _ _ _ _ w, ?_⟩
  rw [h1, Bool.and_eq_true, decide_eq_true_eq, decide_eq_true_eq]
  exact ⟨fun h => by rw [h.1, h.2], lkey_inj⟩
theorem lp_get {v : Value} {ok : Bool} (h : MemoL cap can s0 s1 ns cs es) (h1 : ok = true → ∃ en ∈ es, en.key = .agg ⟨[vint (k : Int), vint oil]⟩ ∧ en.val = v) (h2 : ok = false → v = vint 0 ∧ ∀ en ∈ es, en.key ≠ .agg ⟨[vint (k : Int), vint oil]⟩) :
    ∃ x : Int, v = vint x ∧ (ok = true → x = ch cap can s0 s1 ns cs k oil) := by
  cases ok with
  | true =>
    obtain ⟨en, hen, hk, rfl⟩ := h1 rfl
    obtain ⟨c, d, h3, h4⟩ := h en hen
    obtain ⟨h5, rfl⟩ := lkey_inj (h3.symm.trans hk)
    obtain rfl : c = k := by omega
    exact ⟨_, h4, fun _ => rfl⟩
  | false => exact ⟨0, (h2 rfl).1, fun h => by cases h⟩
theorem lp_put {v : Value} (h : MemoL cap can s0 s1 ns cs es) (hin : ∀ en ∈ es', (en ∈ es) ∨ (en.key = .agg ⟨[vint (k : Int), vint oil]⟩ ∧ en.val = v)) (hv : v = vint (ch cap can s0 s1 ns cs k oil)) : MemoL cap can s0 s1 ns cs es' := fun en hen => by
  rcases hin en hen with h1 | ⟨h1, h2⟩
  · exact h en h1
  · exact ⟨k, oil, h1, h2.trans hv⟩
def CheP (cap can s0 s1 : Int) (ns : List NT) (cs : List Int) (m : Nat) (k : Nat) (oil : Int) (w : World) (v : Value) (w' : World) : Prop := v = vint (ch cap can s0 s1 ns cs k oil) ∧ ∃ es clock, MapAt w' m es clock ∧ MemoL cap can s0 s1 ns cs es ∧ w.grownBy w' (some m)
end

theorem fld85_5 (w : World) (b o : Nat) : (Instr.fieldAt 85 (ptr b o) 5).run Tryz.prog w = .ok (ptr b (o + 9)) w := by
  simp [Instr.fieldAt, run_underlying Tryz.underlying85, fieldPlace, Instr.sureAddr, Tryz.sizeOf80, Addr.add_lit]
theorem fld85_1 (w : World) (b o : Nat) : (Instr.fieldAt 85 (ptr b o) 1).run Tryz.prog w = .ok (ptr b (o + 5)) w := by
  simp [Instr.fieldAt, run_underlying Tryz.underlying85, fieldPlace, Instr.sureAddr, Tryz.sizeOf81, Addr.add_lit]
theorem fld85_2 (w : World) (b o : Nat) : (Instr.fieldAt 85 (ptr b o) 2).run Tryz.prog w = .ok (ptr b (o + 6)) w := by
  simp [Instr.fieldAt, run_underlying Tryz.underlying85, fieldPlace, Instr.sureAddr, Tryz.sizeOf81, Addr.add_lit]
theorem fld85_3 (w : World) (b o : Nat) : (Instr.fieldAt 85 (ptr b o) 3).run Tryz.prog w = .ok (ptr b (o + 7)) w := by
  simp [Instr.fieldAt, run_underlying Tryz.underlying85, fieldPlace, Instr.sureAddr, Tryz.sizeOf82, Addr.add_lit]
theorem cheap_step (cap can s0 s1 : Int) (sa : Option Addr) (sc : Nat) (ns : List NT) (ka : Option Addr) (kc : Nat) (cs : List Int) (wb sb kb m : Nat) (clock : Nat) (es : List MapEntry) (k : Nat) (oil : Int) (w : World) (hok : OkS cap can s0 s1 ns) (hcn : CansP ns cs) (hkn : k ≤ ns.length) (hoil : 0 ≤ oil ∧ oil ≤ 400) (hk : LwH w cap can s0 s1 sa sc ns ka kc cs wb sb kb m) (hM : MapAt w m es clock) (hMemo : MemoL cap can s0 s1 ns cs es) (ih : ∀ (k2 : Nat) (oil2 : Int) (w1 : World) (es1 : List MapEntry) (ck1 : Nat), ns.length - k2 < ns.length - k → k2 ≤ ns.length → 0 ≤ oil2 ∧ oil2 ≤ 400 → LwH w1 cap can s0 s1 sa sc ns ka kc cs wb sb kb m → MapAt w1 m es1 ck1 → MemoL cap can s0 s1 ns cs es1 → Ret Tryz.prog 56 [ptr wb 0, .agg ⟨[vint (k2 : Int), vint oil2]⟩] w1 (CheP cap can s0 s1 ns cs m k2 oil2 w1)) : Ret Tryz.prog 56 [ptr wb 0, .agg ⟨[vint (k : Int), vint oil]⟩] w (fun v w' => CheP cap can s0 s1 ns cs m k oil w v w') := by
 have hM0 := hM
 have hG0 := gm_refl m w
 have hmN := hM.lt
 have hwl_ := hk.blk.lt
 have hn6 := hok.six
 have hsz : w.heap.size ≤ w.heap.size := Nat.le_refl _
 refine ret_of_runs (args := [_, _]) Tryz.func56 rfl (Nat.le_of_ble_eq_true rfl) (by kernel_rfl) (r_seq (r_region' (l_o (o_box rfl rfl rfl ?_))))
 intro b1 w1 hzl1 hzr1 _ hb1 hE1
 have hne_wb_b1 : wb ≠ b1 := by have := hk.blk.lt; omega
 have hne_sb_b1 : sb ≠ b1 := by have := hk.sbk.lt; omega
 have hne_kb_b1 : kb ≠ b1 := by have := hk.kbk.lt; omega
 have hbs_b1 : w.heap.size ≤ b1 := Nat.le_trans hsz hzl1
 replace hM := hM.keep (hE1.block m hM.lt (by simp))
 replace hG0 := grown_trans hG0 (gm_ext hE1)
 replace hsz := Nat.le_trans hsz hE1.size
 refine l_q (qai rfl rfl) (l_nil (r_seq (r_seq (r_draw ext_refl' ext_trans' [0, 1, 2, 3, 4, 5, 6, 7, 8] [] 9 (by kernel_rfl) (by kernel_rfl) ?_))))
 intro w2 _ hE2
 replace hM := hM.keep (hE2.block m hM.lt (by simp))
 replace hG0 := grown_trans hG0 (gm_ext hE2)
 replace hb1 := hb1.ext hE2
 replace hsz := Nat.le_trans hsz hE2.size
 refine m_q rfl rfl (fun w' hC' => q_fieldAddr (o' := 0) rfl fld120_0 rfl) (m_q rfl rfl (fun w' hC' => q_load Tryz.isAgg3 rfl (((hb1.has (o := 0) rfl).ext hC')) rfl) (m_q rfl rfl (fun w' hC' => q_move (v := .pointer _) rfl rfl) (m_q rfl rfl (fun w' hC' => q_nilCheck rfl rfl) (m_q rfl rfl (fun w' hC' => q_fieldAddr (o' := 0) rfl fld85_0 rfl) (m_q rfl rfl (fun w' hC' => q_fieldAddr (o' := 4) rfl fld46_3 rfl) (m_q rfl rfl (fun w' hC' => q_load Tryz.isAgg44 rfl ((((hk.blk.gm hM0 hG0).has (o := 4) rfl).ext hC')) rfl) (m_q rfl rfl (fun w' hC' => q_len rfl Tryz.underlying44 rfl rfl) (m_q rfl rfl (fun w' hC' => q_eql rfl rfl rfl) (m_nil (r_forget [(0, .pointer _), (3, .pointer _), (18, .bool _)] ⟨rfl, rfl, rfl, trivial⟩ (fun e3 => (r_cond rfl (fun hc4 => ?_) (fun hc4 => ?_)))))))))))))
 ·
  replace hc4 := dt hc4
  refine r_seq (r_region' (l_q (qai rfl rfl) (l_nil (r_ret_ (vs := [.int _ _]) rfl Tryz.func56 rfl (.nil _) ⟨rfl, trivial⟩ ?_))))
  exact ⟨vint_eq (ch_end (by omega)).symm, _, _, hM, hMemo, hG0⟩
 ·
  replace hc4 := df hc4
  have hkl : k < ns.length := by omega
  obtain ⟨hq1, hq2, hq3⟩ := hok.at hkl
  have hwkn : wkN ns k = ((ns.getD k nt0).mo - (ns.getD k nt0).le + 1).toNat := rfl
  refine r_skip (r_seq (r_draw ext_refl' ext_trans' [0, 1, 2, 3, 4, 5, 6, 7, 8, 9, 10] [] 12 (by kernel_rfl) (by kernel_rfl) ?_))
  intro w5 _ hE5
  replace hM := hM.keep (hE5.block m hM.lt (by simp))
  replace hG0 := grown_trans hG0 (gm_ext hE5)
  replace hb1 := hb1.ext hE5
  replace hsz := Nat.le_trans hsz hE5.size
  refine m_q rfl rfl (fun w' hC' => q_move (v := .pointer _) rfl rfl) (m_q rfl rfl (fun w' hC' => q_nilCheck rfl rfl) (m_q rfl rfl (fun w' hC' => q_fieldAddr (o' := 9) rfl fld85_5 rfl) (m_q rfl rfl (fun w' hC' => q_load Tryz.isAgg80 rfl ((((hk.blk.gm hM0 hG0).has (o := 9) rfl).ext hC')) rfl) (m_q rfl rfl (fun w' hC' => q_load_agg (n := 2) Tryz.isAgg120 Tryz.sizeOf120 rfl (((hb1.cells' (cs' := [_, _]) 0 2 rfl).ext hC')) rfl rfl) (m_look rfl rfl Tryz.underlying80 Tryz.underlying120 Tryz.zeroValue3 rfl rfl (fun w2 hC2 => hM.keep (hC2.block m hM.lt (by simp))) (fun em w => lpTy.key (n := 9998) _ _ w) (asks_lp hMemo _ _) rfl ?_)))))
  intro v6 ok6 hA6 hB6
  obtain ⟨x6, rfl, hxl⟩ := lp_get hMemo hA6 hB6
  refine m_q rfl rfl (fun w' hC' => q_move (v := .tuple _) rfl rfl) (m_q rfl rfl (fun w' hC' => q_extract (vs := [_, _]) (v := .int _ _) rfl rfl rfl) (m_q rfl rfl (fun w' hC' => q_extract (vs := [_, _]) (v := .bool _) rfl rfl rfl) (m_q rfl rfl (fun w' hC' => qai rfl rfl) (m_q rfl rfl (fun w' hC' => qab rfl rfl) (m_nil (r_forget [(0, .pointer _), (3, .pointer _), (5, .int _ _), (6, .bool _)] ⟨rfl, rfl, rfl, rfl, trivial⟩ (fun e7 => (r_seq (r_seq (r_region' (l_q (qmb rfl rfl) (l_nil (r_cond rfl (fun hc8 => ?_) (fun hc8 => ?_))))))))))))))
  ·
   have hxe := hxl hc8
   refine r_seq (r_region' (l_q (qmi rfl rfl) (l_q (qai rfl rfl) (l_nil (r_ret_ (vs := [.int _ _]) rfl Tryz.func56 rfl (.nil _) ⟨rfl, trivial⟩ ?_)))))
   exact ⟨vint_eq hxe, _, _, hM, hMemo, hG0⟩
  ·
   refine r_skip (r_seq (r_region' (l_q (qai rfl rfl) (l_nil (r_seq (r_seq (r_draw ext_refl' ext_trans' [0, 1, 2, 3, 4, 5, 6, 7] [6] 9 (by kernel_rfl) (by kernel_rfl) ?_)))))))
   intro w9 _ hE9
   replace hM := hM.keep (hE9.block m hM.lt (by simp))
   replace hG0 := grown_trans hG0 (gm_ext hE9)
   replace hb1 := hb1.ext hE9
   replace hsz := Nat.le_trans hsz hE9.size
   refine m_q rfl rfl (fun w' hC' => q_move (v := .pointer _) rfl rfl) (m_q rfl rfl (fun w' hC' => q_nilCheck rfl rfl) (m_q rfl rfl (fun w' hC' => q_fieldAddr (o' := 5) rfl fld85_1 rfl) (m_q rfl rfl (fun w' hC' => q_load Tryz.isAgg81 rfl ((((hk.blk.gm hM0 hG0).has (o := 5) rfl).ext hC')) rfl) (m_q rfl rfl (fun w' hC' => q_fieldAddr (o' := 0) rfl fld120_0 rfl) (m_q rfl rfl (fun w' hC' => q_load Tryz.isAgg3 rfl (((hb1.has (o := 0) rfl).ext hC')) rfl) (m_o rfl rfl (o_callv (f := 25) (fst := []) (cap := [_]) rfl Tryz.call25 rfl (trim1_ret cap can s0 s1 sa sc ns sb k _ (hk.gm hM0 hG0).rN (hk.gm hM0 hG0).sbk (by omega) (by omega)) rfl ?_)))))))
   rintro _ w10 ⟨rfl, hE10⟩
   refine ⟨hE10, ?_⟩
   replace hM := hM.keep (hE10.block m hM.lt (by simp))
   replace hG0 := grown_trans hG0 (gm_ext hE10)
   replace hb1 := hb1.ext hE10
   replace hsz := Nat.le_trans hsz hE10.size
   refine m_q rfl rfl (fun w' hC' => qai rfl rfl) (m_nil (r_block (r_rounds (α := Nat) (fun j e wl => Knows e [(0, ptr wb 0), (3, ptr b1 0), (5, vint (chA cap can s0 s1 ns cs k oil j)), (7, vint ((ns.getD k nt0).le + (j : Int)))] ∧ (j ≤ wkN ns k) ∧ (∃ es2 ck2, MapAt wl m es2 ck2 ∧ MemoL cap can s0 s1 ns cs es2) ∧ (w.grownBy wl (some m)) ∧ (Blk wl b1 [vint (k : Int), vint oil]) ∧ (w.heap.size ≤ wl.heap.size)) (fun j => wkN ns k - j) 0 ?_ ?_)))
   ·
    exact ⟨⟨rfl, rfl, rfl, (vint_eq (by omega)), trivial⟩, (Nat.zero_le _), ⟨_, _, hM, hMemo⟩, hG0, hb1, hsz⟩
   ·
    rintro j el11 wl11 ⟨hkn, hj, hM, hG0, hb1, hsz⟩ ih11
    obtain ⟨e11, rfl⟩ := knows_env hkn
    obtain ⟨es2, ck2, hM, hMemo⟩ := hM
    refine r_seq (r_seq (r_draw ext_refl' ext_trans' [0, 1, 2, 3, 4, 5, 6, 7, 8] [7] 9 (by kernel_rfl) (by kernel_rfl) ?_))
    intro w12 _ hE12
    replace hM := hM.keep (hE12.block m hM.lt (by simp))
    replace hG0 := grown_trans hG0 (gm_ext hE12)
    replace hb1 := hb1.ext hE12
    replace hsz := Nat.le_trans hsz hE12.size
    refine m_q rfl rfl (fun w' hC' => qmi rfl rfl) (m_q rfl rfl (fun w' hC' => q_move (v := .pointer _) rfl rfl) (m_q rfl rfl (fun w' hC' => q_nilCheck rfl rfl) (m_q rfl rfl (fun w' hC' => q_fieldAddr (o' := 6) rfl fld85_2 rfl) (m_q rfl rfl (fun w' hC' => q_load Tryz.isAgg81 rfl ((((hk.blk.gm hM0 hG0).has (o := 6) rfl).ext hC')) rfl) (m_q rfl rfl (fun w' hC' => q_fieldAddr (o' := 0) rfl fld120_0 rfl) (m_q rfl rfl (fun w' hC' => q_load Tryz.isAgg3 rfl (((hb1.has (o := 0) rfl).ext hC')) rfl) (m_o rfl rfl (o_callv (f := 26) (fst := []) (cap := [_]) rfl Tryz.call26 rfl (trim2_ret cap can s0 s1 sa sc ns sb k _ (hk.gm hM0 hG0).rN (hk.gm hM0 hG0).sbk (by omega) (by omega)) rfl ?_))))))))
    rintro _ w13 ⟨rfl, hE13⟩
    refine ⟨hE13, ?_⟩
    replace hM := hM.keep (hE13.block m hM.lt (by simp))
    replace hG0 := grown_trans hG0 (gm_ext hE13)
    replace hb1 := hb1.ext hE13
    replace hsz := Nat.le_trans hsz hE13.size
    refine m_q rfl rfl (fun w' hC' => q_leq rfl rfl rfl) (m_nil (r_cond rfl (fun hc14 => ?_) (fun hc14 => ?_)))
    ·
     replace hc14 := dt hc14
     have hjK : j < wkN ns k := by omega
     refine r_skip (r_seq (r_block (r_seq (r_region' (l_q (q_move (v := .pointer _) rfl rfl) (l_q (q_load_agg (n := 2) Tryz.isAgg120 Tryz.sizeOf120 rfl ((hb1.cells' (cs' := [_, _]) 0 2 rfl)) rfl rfl) (l_q (qmi rfl rfl) (l_o (o_call Tryz.call57 rfl (step_ret cap can s0 s1 sa sc ns ka kc cs wb sb kb m k oil ((ns.getD k nt0).le + (j : Int)) _ hok hcn (hk.gm hM0 hG0) (by omega) (by omega) (by omega)) rfl ?_)))))))))
     rintro _ w15 ⟨rfl, hE15⟩
     replace hM := hM.keep (hE15.block m hM.lt (by simp))
     replace hG0 := grown_trans hG0 (gm_ext hE15)
     replace hb1 := hb1.ext hE15
     replace hsz := Nat.le_trans hsz hE15.size
     refine l_q (q_move (v := .tuple _) rfl rfl) (l_q (q_extract (vs := [_, _]) (v := .agg _) rfl rfl rfl) (l_q (q_extract (vs := [_, _]) (v := .bool _) rfl rfl rfl) (l_o (o_alloc Tryz.zeroValue120 rfl rfl ?_))))
     intro b16 w16 hzl16 hzr16 _ hb16 hE16
     have hne_wb_b16 : wb ≠ b16 := by have := hk.blk.lt; omega
     have hne_sb_b16 : sb ≠ b16 := by have := hk.sbk.lt; omega
     have hne_kb_b16 : kb ≠ b16 := by have := hk.kbk.lt; omega
     have hne_b1_b16 : b1 ≠ b16 := by have := hb1.lt; omega
     have hbs_b16 : w.heap.size ≤ b16 := Nat.le_trans hsz hzl16
     replace hM := hM.keep (hE16.block m hM.lt (by simp))
     replace hG0 := grown_trans hG0 (gm_ext hE16)
     replace hb1 := hb1.ext hE16
     replace hsz := Nat.le_trans hsz hE16.size
     refine l_o (o_store (vs := [vint ((k + 1 : Nat) : Int), vint (stL cap can s0 s1 ns cs k ((ns.getD k nt0).le + (j : Int)) oil)]) (cs' := [vint ((k + 1 : Nat) : Int), vint (stL cap can s0 s1 ns cs k ((ns.getD k nt0).le + (j : Int)) oil)]) Tryz.sizeOf120 rfl rfl rfl rfl hb16 (Nat.le_of_ble_eq_true rfl) rfl rfl ?_)
     intro w17 hz17 hb16 hG17
     replace hsz : w.heap.size ≤ w17.heap.size := by rw [hz17]; exact hsz
     replace hM := hM.keep (hG17.block m hM.lt (by simp; omega))
     replace hG0 := gm_upd hG0 hG17 (by omega)
     replace hb1 := hb1.upd hG17 (by omega)
     refine l_q (qab rfl rfl) (l_nil (r_forget [(0, .pointer _), (3, .pointer _), (5, .int _ _), (7, .int _ _), (8, .pointer _), (9, .bool _)] ⟨rfl, rfl, rfl, rfl, rfl, rfl, trivial⟩ (fun e18 => (r_seq (r_region' (l_q (qmb rfl rfl) (l_nil (r_cond rfl (fun hc19 => ?_) (fun hc19 => ?_)))))))))
     ·
      have hlit := hc19
      have hfb := ch_bnd (cs := cs) (oil := stL cap can s0 s1 ns cs k ((ns.getD k nt0).le + (j : Int)) oil) hok (show k + 1 ≤ ns.length by omega)
      have hcb := cost_bnd hq1 (show 0 ≤ (ns.getD k nt0).le + (j : Int) ∧ (ns.getD k nt0).le + (j : Int) ≤ 4 by omega)
      have hlb := stL_bnd (n := (ns.getD k nt0).le + (j : Int)) hok hcn hkl (by omega) hoil
      refine r_draw (gm_refl m) (gm_trans m) [0, 1, 2, 3, 4, 5, 6, 7, 9, 10, 8, 11, 12, 13, 14, 15] [8, 11, 13, 14, 1014] 14 (by kernel_rfl) (by kernel_rfl) ?_
      intro w20 _ hE20
      replace hM := hM.keep (hE20.block m hM.lt (by simp))
      replace hG0 := grown_trans hG0 (gm_ext hE20)
      replace hb1 := hb1.ext hE20
      replace hb16 := hb16.ext hE20
      replace hsz := Nat.le_trans hsz hE20.size
      refine m_q rfl rfl (fun w' hC' => qmi rfl rfl) (m_q rfl rfl (fun w' hC' => q_move (v := .pointer _) rfl rfl) (m_q rfl rfl (fun w' hC' => q_nilCheck rfl rfl) (m_q rfl rfl (fun w' hC' => q_fieldAddr (o' := 7) rfl fld85_3 rfl) (m_q rfl rfl (fun w' hC' => q_load Tryz.isAgg82 rfl ((((hk.blk.gm hM0 hG0).gm hM hC').has (o := 7) rfl)) rfl) (m_q rfl rfl (fun w' hC' => q_fieldAddr (o' := 0) rfl fld120_0 rfl) (m_q rfl rfl (fun w' hC' => q_load Tryz.isAgg3 rfl (((hb1.gm hM hC').has (o := 0) rfl)) rfl) (m_q rfl rfl (fun w' hC' => qmi rfl rfl) (m_q rfl rfl (fun w' hC' => q_move (v := .pointer _) rfl rfl) (m_q rfl rfl (fun w' hC' => q_load_agg (n := 2) Tryz.isAgg120 Tryz.sizeOf120 rfl (((hb16.gm hM hC').cells' (cs' := [_, _]) 0 2 rfl)) rfl rfl) ?_)))))))))
      refine m_o rfl rfl (o_callv (f := 27) (fst := []) (cap := [_]) rfl Tryz.call27 rfl (trim3_ret cap can s0 s1 sa sc ns sb k ((ns.getD k nt0).le + (j : Int)) _ (hk.gm hM0 hG0).rN (hk.gm hM0 hG0).sbk hok (by omega) (by omega)) rfl ?_)
      rintro _ w21 ⟨rfl, hE21⟩
      refine ⟨(gm_ext hE21), ?_⟩
      replace hM := hM.keep (hE21.block m hM.lt (by simp))
      replace hG0 := grown_trans hG0 (gm_ext hE21)
      replace hb1 := hb1.ext hE21
      replace hb16 := hb16.ext hE21
      replace hsz := Nat.le_trans hsz hE21.size
      refine m_o rfl rfl (o_call Tryz.call56 rfl (ih (k + 1) (stL cap can s0 s1 ns cs k ((ns.getD k nt0).le + (j : Int)) oil) _ _ _ (by omega) (by omega) hlb (hk.gm hM0 hG0) hM hMemo) rfl ?_)
      rintro _ w22 ⟨rfl, esc22, ckc22, hMc22, hMm22, hGc22⟩
      refine ⟨hGc22, ?_⟩
      replace hsz : w.heap.size ≤ w22.heap.size := Nat.le_trans hsz hGc22.size
      replace hG0 := gm_upd hG0 hGc22 (by omega)
      replace hb1 := hb1.upd hGc22 (by omega)
      replace hb16 := hb16.upd hGc22 (by omega)
      have hM := hMc22
      have hMemo := hMm22
      refine m_q rfl rfl (fun w' hC' => q_add rfl rfl (by omega) rfl) (m_o rfl rfl (o_buildSlice (el := 3) (cs := [vint (chA cap can s0 s1 ns cs k oil j), vint ((-((ns.getD k nt0).le + (j : Int)) * (ns.getD k nt0).h) + (ch cap can s0 s1 ns cs (k + 1) (stL cap can s0 s1 ns cs k ((ns.getD k nt0).le + (j : Int)) oil)))]) Tryz.underlying27 el3 (by decide) (by kernel_rfl) rfl (by decide) rfl ?_))
      intro b23 w23 hzl23 hzr23 _ hb23 hE23 ho23
      refine ⟨(gm_ext hE23), ?_⟩
      have hne_wb_b23 : wb ≠ b23 := by have := hk.blk.lt; omega
      have hne_sb_b23 : sb ≠ b23 := by have := hk.sbk.lt; omega
      have hne_kb_b23 : kb ≠ b23 := by have := hk.kbk.lt; omega
      have hne_b1_b23 : b1 ≠ b23 := by have := hb1.lt; omega
      have hne_b16_b23 : b16 ≠ b23 := by have := hb16.lt; omega
      have hbs_b23 : w.heap.size ≤ b23 := Nat.le_trans hsz hzl23
      replace hG0 := grown_trans hG0 (gm_ext hE23)
      replace hb1 := hb1.ext hE23
      replace hM := hM.keep (hE23.block m hM.lt (by simp))
      replace hsz := Nat.le_trans hsz hE23.size
      refine m_last rfl rfl rfl (o_call Tryz.call60 rfl (lmin_ret _ _ [chA cap can s0 s1 ns cs k oil j, (-((ns.getD k nt0).le + (j : Int)) * (ns.getD k nt0).h) + (ch cap can s0 s1 ns cs (k + 1) (stL cap can s0 s1 ns cs k ((ns.getD k nt0).le + (j : Int)) oil))] _ (Row.of_owns ho23) (by first | omega | simp) (by first | omega | simp)) rfl ?_)
      rintro _ w24 ⟨rfl, hE24⟩
      replace hG0 := grown_trans hG0 (gm_ext hE24)
      replace hb1 := hb1.ext hE24
      replace hM := hM.keep (hE24.block m hM.lt (by simp))
      replace hsz := Nat.le_trans hsz hE24.size
      refine m_q rfl rfl (fun w' hC' => qai rfl rfl) (m_nil (r_forget [(0, .pointer _), (3, .pointer _), (5, .int _ _), (7, .int _ _)] ⟨rfl, rfl, rfl, rfl, trivial⟩ (fun e25 => (r_inBlock (r_region' (l_q (qmi rfl rfl) (l_q (q_add rfl rfl (by omega) rfl) (l_q (qai rfl rfl) (l_nil ?_)))))))))
      exact ih11 (j + 1) _ _ ⟨⟨rfl, rfl, (vint_eq (by first | exact chA_yes hlit | exact chA_no hlit)), (vint_eq (by omega)), trivial⟩, (by omega), ⟨_, _, hM, hMemo⟩, hG0, hb1, hsz⟩ (by first | omega | (dsimp only; omega))
     ·
      have hlit := hc19
      refine r_skip (r_inBlock (r_region' (l_q (qmi rfl rfl) (l_q (q_add rfl rfl (by omega) rfl) (l_q (qai rfl rfl) (l_nil ?_))))))
      exact ih11 (j + 1) _ _ ⟨⟨rfl, rfl, (vint_eq (by first | exact chA_yes hlit | exact chA_no hlit)), (vint_eq (by omega)), trivial⟩, (by omega), ⟨_, _, hM, hMemo⟩, hG0, hb1, hsz⟩ (by first | omega | (dsimp only; omega))
    ·
     replace hc14 := dle hc14
     refine r_exit rfl (r_seq ?_)
     have hje : j = wkN ns k := by omega
     have hval : vint (chA cap can s0 s1 ns cs k oil j) = vint (ch cap can s0 s1 ns cs k oil) := by rw [ch_all hkl, hje]
     refine r_draw ext_refl' ext_trans' [0, 1, 2, 3, 4, 5, 6] [6, 1006] 9 (by kernel_rfl) (by kernel_rfl) ?_
     intro w26 _ hE26
     replace hM := hM.keep (hE26.block m hM.lt (by simp))
     replace hG0 := grown_trans hG0 (gm_ext hE26)
     replace hb1 := hb1.ext hE26
     replace hsz := Nat.le_trans hsz hE26.size
     refine m_q rfl rfl (fun w' hC' => q_move (v := .pointer _) rfl rfl) (m_q rfl rfl (fun w' hC' => q_nilCheck rfl rfl) (m_q rfl rfl (fun w' hC' => q_fieldAddr (o' := 9) rfl fld85_5 rfl) (m_q rfl rfl (fun w' hC' => q_load Tryz.isAgg80 rfl ((((hk.blk.gm hM0 hG0).has (o := 9) rfl).ext hC')) rfl) (m_q rfl rfl (fun w' hC' => q_load_agg (n := 2) Tryz.isAgg120 Tryz.sizeOf120 rfl (((hb1.cells' (cs' := [_, _]) 0 2 rfl).ext hC')) rfl rfl) (m_q rfl rfl (fun w' hC' => qmi rfl rfl) (m_last rfl rfl rfl (o_mapUpdate Tryz.underlying80 Tryz.underlying120 rfl rfl rfl hM (fun em w => lpTy.key (n := 9998) _ _ w) (asks_lp hMemo _ _) (sameBits_ints [(k : Int), oil]) rfl ?_)))))))
     intro es27 ck27 w27 hz27 hM27 hG27 hin27
     replace hsz : w.heap.size ≤ w27.heap.size := by rw [hz27]; exact hsz
     replace hG0 := gm_upd hG0 hG27 (by omega)
     have hM := hM27
     replace hMemo := lp_put hMemo hin27 hval
     refine m_nil (r_forget [(5, .int _ _)] ⟨rfl, trivial⟩ (fun e28 => (r_seq (r_region' (l_q (qmi rfl rfl) (l_q (qai rfl rfl) (l_nil (r_ret_ (vs := [.int _ _]) rfl Tryz.func56 rfl (.nil _) ⟨rfl, trivial⟩ ?_))))))))
     exact ⟨hval, _, _, hM, hMemo, hG0⟩
theorem cheap_ret (cap can s0 s1 : Int) (sa : Option Addr) (sc : Nat) (ns : List NT) (ka : Option Addr) (kc : Nat) (cs : List Int) (wb sb kb m : Nat) (hok : OkS cap can s0 s1 ns) (hcn : CansP ns cs) : ∀ (n k : Nat) (oil : Int) (w : World) (clock : Nat) (es : List MapEntry), ns.length - k ≤ n → k ≤ ns.length → 0 ≤ oil ∧ oil ≤ 400 → LwH w cap can s0 s1 sa sc ns ka kc cs wb sb kb m → MapAt w m es clock → MemoL cap can s0 s1 ns cs es → Ret Tryz.prog 56 [ptr wb 0, .agg ⟨[vint (k : Int), vint oil]⟩] w (CheP cap can s0 s1 ns cs m k oil w) := by
  intro n
  induction n with
  | zero =>
    intro k oil w ck es hn hk ho hw hM hMm
    exact cheap_step cap can s0 s1 sa sc ns ka kc cs wb sb kb m ck es k oil w hok hcn hk ho hw hM hMm (fun k2 oil2 w1 es1 ck1 hlt => by omega)
  | succ n ih =>
    intro k oil w ck es hn hk ho hw hM hMm
    exact cheap_step cap can s0 s1 sa sc ns ka kc cs wb sb kb m ck es k oil w hok hcn hk ho hw hM hMm (fun k2 oil2 w1 es1 ck1 hlt h1 h2 h3 h4 h5 => ih k2 oil2 w1 ck1 es1 (by omega) h1 h2 h3 h4 h5)
end Go.Proofs.YtbikicakdkbcgabGreat
