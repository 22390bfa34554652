/- Contracts. -/
import Derived.Test.YtbikicakdkbcgacGreatF10
set_option linter.unusedVariables false
set_option linter.unusedSimpArgs false
namespace Go.Proofs.YtbikicakdkbcgacGreat
open Go Go.RowKit Go.Gv Go.Fl

def stepMin (rec : Sg → Sg → Int) (s r : Sg) (m k : Int) : Int := if (stepR k s r).2.2 = true then min m (cost k + rec (stepR k s r).1 (stepR k s r).2.1) else m
def kinds6 : List Int := [0, 1, 2, 3, 4, 5]
def start0 (F : Int) (s r : Sg) : Int := if s = [] ∧ r = [] then 0 else F
def feN (F : Int) : Nat → Sg → Sg → Int
  | 0, s, r => start0 F s r
  | n + 1, s, r => kinds6.foldl (stepMin (feN F n) s r) (start0 F s r)
def fe (F : Int) (s r : Sg) : Int := feN F (s.length + r.length) s r
def feA (F : Int) (k : Nat) (s r : Sg) : Int := (kinds6.take k).foldl (stepMin (fe F) s r) (start0 F s r)
theorem tw_pos {k : Int} {s : Sg} {t : Nat} {wr : Sg} (h : stepTW k s = some (t, wr)) : (1 ≤ t ∧ 1 ≤ s.length) ∨ 1 ≤ wr.length := by
  have hn : s ≠ [] → 1 ≤ s.length := List.length_pos_iff.2
  unfold stepTW at h
  repeat' split at h
  all_goals first
    | (cases h; done)
    | (injection h with h; injection h with h1 h2; subst h1; subst h2; first
        | (right; simp; done)
        | (left; refine ⟨by omega, ?_⟩; first | (apply hn; assumption) | (apply hn; intro he; simp_all; done) | omega))
theorem stepR_dec {k : Int} {s r : Sg} (h : (stepR k s r).2.2 = true) : (stepR k s r).1.length + (stepR k s r).2.1.length < s.length + r.length := by
  cases ht : stepTW k s with
  | none => rw [stepR_none ht] at h; cases h
  | some p =>
    obtain ⟨t, wr⟩ := p
    cases hp : hasPfx r wr with
    | false => rw [stepR_no ht hp] at h; cases h
    | true =>
      rw [stepR_yes ht hp]
      have h1 := tw_pos ht
      have h2 := pfx_len hp
      simp only [List.length_drop]
      omega
theorem stepMin_congr {f g : Sg → Sg → Int} {s r : Sg} (h : ∀ k, (stepR k s r).2.2 = true → f (stepR k s r).1 (stepR k s r).2.1 = g (stepR k s r).1 (stepR k s r).2.1) (m k : Int) : stepMin f s r m k = stepMin g s r m k := by
  unfold stepMin
  split
  · rename_i hk; rw [h k hk]
  · rfl
theorem foldl_stepMin_congr {f g : Sg → Sg → Int} {s r : Sg} (h : ∀ k, (stepR k s r).2.2 = true → f (stepR k s r).1 (stepR k s r).2.1 = g (stepR k s r).1 (stepR k s r).2.1) : ∀ (l : List Int) (m : Int), l.foldl (stepMin f s r) m = l.foldl (stepMin g s r) m
  | [], _ => rfl
  | k :: l, m => by rw [List.foldl_cons, List.foldl_cons, stepMin_congr h, foldl_stepMin_congr h l]
theorem foldl_none {f : Sg → Sg → Int} {s r : Sg} (h : ∀ k, (stepR k s r).2.2 = false) : ∀ (l : List Int) (m : Int), l.foldl (stepMin f s r) m = m
  | [], _ => rfl
  | k :: l, m => by
    have : stepMin f s r m k = m := by unfold stepMin; rw [h k]; simp
    rw [List.foldl_cons, this, foldl_none h l]
theorem feN_stable (F : Int) : ∀ (L n m : Nat) (s r : Sg), s.length + r.length ≤ L → s.length + r.length ≤ n → s.length + r.length ≤ m → feN F n s r = feN F m s r := by
  intro L
  induction L with
  | zero =>
    intro n m s r hL _ _
    have hno : ∀ k, (stepR k s r).2.2 = false := fun k => by
      cases h : (stepR k s r).2.2 with
      | false => rfl
      | true => have := stepR_dec h; omega
    have h1 : ∀ n, feN F n s r = start0 F s r := fun n => by
      cases n with
      | zero => rfl
      | succ n => exact foldl_none hno _ _
    rw [h1, h1]
  | succ L ih =>
    intro n m s r hL hn hm
    by_cases h0 : s.length + r.length ≤ L
    · exact ih n m s r h0 hn hm
    · cases n with
      | zero => omega
      | succ n =>
        cases m with
        | zero => omega
        | succ m =>
          show List.foldl _ _ _ = List.foldl _ _ _
          exact foldl_stepMin_congr (fun k hk => ih n m _ _ (by have := stepR_dec hk; omega) (by have := stepR_dec hk; omega) (by have := stepR_dec hk; omega)) _ _
theorem fe_six {F : Int} (s r : Sg) : feA F 6 s r = fe F s r := by
  have h1 : fe F s r = feN F (s.length + r.length + 1) s r := feN_stable F _ _ _ s r (Nat.le_refl _) (Nat.le_refl _) (by omega)
  rw [h1]
  refine foldl_stepMin_congr (s := s) (r := r) (f := fe F) (g := feN F (s.length + r.length)) (fun k hk => ?_) kinds6 (start0 F s r)
  have h := stepR_dec hk
  exact feN_stable F (s.length + r.length) _ _ _ _ (by omega) (Nat.le_refl _) (by omega)
theorem feA_succ {F : Int} {k : Nat} {s r : Sg} (hk : k < 6) : feA F (k + 1) s r = stepMin (fe F) s r (feA F k s r) (k : Int) := by
  unfold feA
  have : kinds6.take (k + 1) = kinds6.take k ++ [(k : Int)] := by
    rcases (show k = 0 ∨ k = 1 ∨ k = 2 ∨ k = 3 ∨ k = 4 ∨ k = 5 by omega) with rfl | rfl | rfl | rfl | rfl | rfl <;> rfl
  rw [this, List.foldl_append]; rfl
theorem fe_eq_step {F : Int} {k : Nat} {s r a b : Sg} (h : stepR (k : Int) s r = (a, b, true)) (hk : k < 6 := by assumption) : min (feA F k s r) (cost (k : Int) + fe F a b) = feA F (k + 1) s r := by
  rw [feA_succ hk, stepMin, h]; simp
theorem ofK_dec {k : Int} {s r a b : Sg} (h : stepR k s r = (a, b, true)) : a.length + b.length < s.length + r.length := by
  have := stepR_dec (k := k) (s := s) (r := r) (by rw [h])
  rwa [h] at this
theorem fold_bounds {F : Int} {f : Sg → Sg → Int} {s r : Sg} (h : ∀ k, (stepR k s r).2.2 = true → 0 ≤ f (stepR k s r).1 (stepR k s r).2.1) : ∀ (l : List Int) (m : Int), 0 ≤ m → m ≤ F → 0 ≤ l.foldl (stepMin f s r) m ∧ l.foldl (stepMin f s r) m ≤ F
  | [], m, h0, h1 => ⟨h0, h1⟩
  | k :: l, m, h0, h1 => by
    rw [List.foldl_cons]
    have hm : 0 ≤ stepMin f s r m k ∧ stepMin f s r m k ≤ F := by
      unfold stepMin
      split
      · rename_i hk; have := h k hk; have := cost_le k; omega
      · exact ⟨h0, h1⟩
    exact fold_bounds h l _ hm.1 hm.2
theorem start_bounds {F : Int} (hF : 0 ≤ F) (s r : Sg) : 0 ≤ start0 F s r ∧ start0 F s r ≤ F := by unfold start0; split <;> omega
theorem feN_bounds {F : Int} (hF : 0 ≤ F) : ∀ (n : Nat) (s r : Sg), 0 ≤ feN F n s r ∧ feN F n s r ≤ F
  | 0, s, r => start_bounds hF s r
  | n + 1, s, r => fold_bounds (fun _ _ => (feN_bounds hF n _ _).1) _ _ (start_bounds hF s r).1 (start_bounds hF s r).2
theorem fe_bounds {F : Int} (hF : 0 ≤ F) (s r : Sg) : 0 ≤ fe F s r ∧ fe F s r ≤ F := feN_bounds hF _ s r
def Memo (es : List MapEntry) : Prop := ∀ en ∈ es, ∃ a b : Sg, en.key = .agg ⟨[vstr a, vstr b]⟩ ∧ en.val = vint (fe 1048576 a b)
theorem memo_nil : Memo [] := fun _ h => by simp at h
theorem key_inj {a b c d : Sg} (h : Value.agg ⟨[vstr a, vstr b]⟩ = .agg ⟨[vstr c, vstr d]⟩) : a = c ∧ b = d := by
  injection h with h; injection h with h; injection h with h1 h2; injection h2 with h2 _
  injection h1 with h1; injection h2 with h2
  injection h1 with h1; injection h2 with h2
  injection h1 with h1; injection h2 with h2
  exact ⟨h1, h2⟩
theorem asks_memo {es : List MapEntry} (h : Memo es) (a b : Sg) : Asks Tryz.prog 178 (.agg ⟨[vstr a, vstr b]⟩) es := fun en hen => by
  obtain ⟨c, d, h1, _⟩ := h en hen
  refine ⟨decide (a = c) && decide (b = d), fun w => by rw [h1]; exact run_equal_pair Tryz.underlying178 ⟨by decide, rfl, rfl⟩ ⟨by decide, rfl, rfl⟩ Tryz.underlying9 Tryz.isAgg9 (by kernel_rfl), ?_⟩
  rw [h1, Bool.and_eq_true, decide_eq_true_eq, decide_eq_true_eq]
  exact ⟨fun h => by rw [h.1, h.2], key_inj⟩
theorem memo_get {es : List MapEntry} {a b : Sg} {v : Value} {ok : Bool} (h : Memo es) (h1 : ok = true → ∃ en ∈ es, en.key = .agg ⟨[vstr a, vstr b]⟩ ∧ en.val = v) (h2 : ok = false → v = vint 0 ∧ ∀ en ∈ es, en.key ≠ .agg ⟨[vstr a, vstr b]⟩) :
    ∃ x : Int, v = vint x ∧ (ok = true → x = fe 1048576 a b) := by
  cases ok with
  | true =>
    obtain ⟨en, hen, hk, rfl⟩ := h1 rfl
    obtain ⟨c, d, h3, h4⟩ := h en hen
    obtain ⟨rfl, rfl⟩ := key_inj (h3.symm.trans hk)
    exact ⟨_, h4, fun _ => rfl⟩
  | false => exact ⟨0, (h2 rfl).1, fun h => by cases h⟩
theorem memo_put {es es' : List MapEntry} {a b : Sg} {v : Value} (h : Memo es) (hin : ∀ en ∈ es', (en ∈ es) ∨ (en.key = .agg ⟨[vstr a, vstr b]⟩ ∧ en.val = v)) (hv : v = vint (fe 1048576 a b)) : Memo es' := fun en hen => by
  rcases hin en hen with h1 | ⟨h1, h2⟩
  · exact h en h1
  · exact ⟨a, b, h1, h2.trans hv⟩
def FewP (m : Nat) (s r : Sg) (w : World) (v : Value) (w' : World) : Prop := v = vint (fe 1048576 s r) ∧ ∃ es clock, MapAt w' m es clock ∧ Memo es ∧ w.grownBy w' (some m)
structure FJ (w0 : World) (m b2 b3 b5 bx db : Nat) (s r : Sg) (Lp : World → LoopState → Option Code → Prop) (k : Nat) (w : World) : Prop where
  mem : ∃ es clock, MapAt w m es clock ∧ Memo es
  c2 : Blk w b2 [.map (some m)]
  c3 : Blk w b3 [vstr s, vstr r]
  c5 : Blk w b5 [vint (feA 1048576 k s r)]
  cx : Blk w bx [vstr s, vstr r]
  lp : Lp w .ready none
  dfr : w.heap[db]? = some (.deferred (some []))
  gr : w0.grownBy w (some m)
theorem FJ.below {w0 : World} {m b2 b3 b5 bx db N : Nat} {s r : Sg} {Lp : World → LoopState → Option Code → Prop} {k : Nat} {w w' : World} (h : FJ w0 m b2 b3 b5 bx db s r Lp k w) (hB : Below N w w') (hm : m < N) (h2 : b2 < N) (h3 : b3 < N) (h5 : b5 < N) (hx : bx < N) (hd : db < N) (h0 : w0.heap.size ≤ N)
    (hL : ∀ w1 w2, Below N w1 w2 → Lp w1 .ready none → Lp w2 .ready none) : FJ w0 m b2 b3 b5 bx db s r Lp k w' := by
  obtain ⟨⟨es, clock, hM, hMe⟩, c2, c3, c5, cx, lp, dfr, gr⟩ := h
  exact ⟨⟨es, clock, hM.keep (hB.block m hm), hMe⟩, c2.keep (hB.block _ h2), c3.keep (hB.block _ h3), c5.keep (hB.block _ h5), cx.keep (hB.block _ hx), hL _ _ hB lp, (hB.block _ hd).trans dfr, gm_below gr hB h0⟩
theorem FJ.skip {w0 : World} {m b2 b3 b5 bx db : Nat} {s r : Sg} {Lp : World → LoopState → Option Code → Prop} {k : Nat} {w : World} (h : FJ w0 m b2 b3 b5 bx db s r Lp k w) (hno : (stepR (k : Int) s r).2.2 = false) (hk : k < 6 := by assumption) : FJ w0 m b2 b3 b5 bx db s r Lp (k + 1) w := by
  have : feA 1048576 (k + 1) s r = feA 1048576 k s r := by rw [feA_succ hk, stepMin, hno]; simp
  obtain ⟨h1, c2, c3, c5, cx, lp, dfr, gr⟩ := h
  exact ⟨h1, c2, c3, by rw [this]; exact c5, cx, lp, dfr, gr⟩

theorem fld214_1 (w : World) (b o : Nat) : (Instr.fieldAt 214 (ptr b o) 1).run Tryz.prog w = .ok (ptr b (o + 1)) w := by
  simp [Instr.fieldAt, run_underlying Tryz.underlying214, fieldPlace, Instr.sureAddr, Tryz.sizeOf3, Addr.add_lit]
theorem el3 : Elem Tryz.prog 3 (vint 0) 1 8 := elem_of (by kernel_rfl) rfl (by decide)
theorem fewest_step (m clock : Nat) (es : List MapEntry) (s r : Sg) (w : World) (hs : s.length ≤ 2097152) (hr : r.length ≤ 2097152) (hr33 : ∀ x ∈ r, x ≠ 33) (hM : MapAt w m es clock) (hMemo : Memo es) (ih : ∀ (s2 r2 : Sg) (w1 : World) (es1 : List MapEntry) (clock1 : Nat), s2.length + r2.length < s.length + r.length → s2.length ≤ 2097152 → r2.length ≤ 2097152 → (∀ x ∈ r2, x ≠ 33) → MapAt w1 m es1 clock1 → Memo es1 → Ret Tryz.prog 121 [.map (some m), .agg ⟨[vstr s2, vstr r2]⟩] w1 (FewP m s2 r2 w1)) : Ret Tryz.prog 121 [.map (some m), .agg ⟨[vstr s, vstr r]⟩] w (fun v w' => FewP m s r w v w') := by
 have hG0 := gm_refl m w
 have hmN := hM.lt
 have hsz : w.heap.size ≤ w.heap.size := Nat.le_refl _
 refine ret_of_runs (args := [_, _]) Tryz.func121 rfl (Nat.le_of_ble_eq_true rfl) (by kernel_rfl) (r_seq (r_region' (l_o (o_box rfl rfl rfl ?_))))
 intro b1 w1 hzl1 hzr1 _ hb1 hE1
 have hbs_b1 : w.heap.size ≤ b1 := Nat.le_trans hsz hzl1
 replace hM := hM.keep (hE1.block m hM.lt (by simp))
 replace hG0 := grown_trans hG0 (gm_ext hE1)
 replace hsz := Nat.le_trans hsz hE1.size
 refine l_o (o_box rfl rfl rfl ?_)
 intro b2 w2 hzl2 hzr2 _ hb2 hE2
 have hne_b1_b2 : b1 ≠ b2 := by have := hb1.lt; omega
 have hbs_b2 : w.heap.size ≤ b2 := Nat.le_trans hsz hzl2
 replace hM := hM.keep (hE2.block m hM.lt (by simp))
 replace hG0 := grown_trans hG0 (gm_ext hE2)
 replace hb1 := hb1.ext hE2
 replace hsz := Nat.le_trans hsz hE2.size
 refine l_q (qai rfl rfl) (l_nil (r_seq (r_region' (l_q (q_load Tryz.isAgg175 rfl ((hb1.has (o := 0) rfl)) rfl) (l_q (q_load_agg (n := 2) Tryz.isAgg178 Tryz.sizeOf178 rfl ((hb2.cells' (cs' := [_, _]) 0 2 rfl)) rfl rfl) (l_lookup Tryz.underlying175 Tryz.underlying178 Tryz.zeroValue3 rfl rfl hM (fun em w => run_checkKey_pair (n := 9998) Tryz.underlying178 ⟨by decide, rfl, rfl⟩ ⟨by decide, rfl, rfl⟩ Tryz.underlying9 Tryz.isAgg9) (asks_memo hMemo _ _) rfl ?_))))))
 intro v3 ok3 hA3 hB3
 obtain ⟨x3, rfl, hxl⟩ := memo_get hMemo hA3 hB3
 refine l_q (q_move (v := .tuple _) rfl rfl) (l_q (q_extract (vs := [_, _]) (v := .int _ _) rfl rfl rfl) (l_q (q_extract (vs := [_, _]) (v := .bool _) rfl rfl rfl) (l_o (o_alloc Tryz.zeroValue3 rfl rfl ?_))))
 intro b4 w4 hzl4 hzr4 _ hb4 hE4
 have hne_b1_b4 : b1 ≠ b4 := by have := hb1.lt; omega
 have hne_b2_b4 : b2 ≠ b4 := by have := hb2.lt; omega
 have hbs_b4 : w.heap.size ≤ b4 := Nat.le_trans hsz hzl4
 replace hM := hM.keep (hE4.block m hM.lt (by simp))
 replace hG0 := grown_trans hG0 (gm_ext hE4)
 replace hb1 := hb1.ext hE4
 replace hb2 := hb2.ext hE4
 replace hsz := Nat.le_trans hsz hE4.size
 refine l_o (o_store (vs := [vint x3]) (cs' := [vint x3]) Tryz.sizeOf3 rfl rfl rfl rfl hb4 (Nat.le_of_ble_eq_true rfl) rfl rfl ?_)
 intro w5 hz5 hb4 hG5
 replace hsz : w.heap.size ≤ w5.heap.size := by rw [hz5]; exact hsz
 replace hM := hM.keep (hG5.block m hM.lt (by simp; omega))
 replace hG0 := gm_upd hG0 hG5 (by omega)
 replace hb1 := hb1.upd hG5 (by omega)
 replace hb2 := hb2.upd hG5 (by omega)
 refine l_q (qab rfl rfl) (l_nil (r_seq (r_seq (r_region' (l_q (qmb rfl rfl) (l_nil (r_forget [(2, .pointer _), (3, .pointer _), (5, .pointer _), (15, .bool _)] ⟨rfl, rfl, rfl, rfl, trivial⟩ (fun e6 => (r_cond rfl (fun hc7 => ?_) (fun hc7 => ?_))))))))))
 ·
  have hx := hxl hc7
  refine r_seq (r_region' (l_q (q_load Tryz.isAgg3 rfl ((hb4.has (o := 0) rfl)) rfl) (l_q (qai rfl rfl) (l_nil (r_ret_ (vs := [.int _ _]) rfl Tryz.func121 rfl (.nil _) ⟨rfl, trivial⟩ ?_)))))
  exact ⟨vint_eq hx, _, _, hM, hMemo, hG0⟩
 ·
  refine r_skip (r_seq (r_region' (l_o (o_store (vs := [vint 1048576]) (cs' := [vint 1048576]) Tryz.sizeOf3 rfl rfl rfl rfl hb4 (Nat.le_of_ble_eq_true rfl) rfl rfl ?_))))
  intro w8 hz8 hb4 hG8
  replace hsz : w.heap.size ≤ w8.heap.size := by rw [hz8]; exact hsz
  replace hM := hM.keep (hG8.block m hM.lt (by simp; omega))
  replace hG0 := gm_upd hG0 hG8 (by omega)
  replace hb1 := hb1.upd hG8 (by omega)
  replace hb2 := hb2.upd hG8 (by omega)
  refine l_nil (r_seq (r_seq (r_region' (l_q (q_fieldAddr (o' := 0) rfl fld178_0 rfl) (l_q (q_load Tryz.isAgg9 rfl ((hb2.has (o := 0) rfl)) rfl) (l_q (q_eql_str rfl rfl rfl) (l_q (qmb rfl rfl) (l_part 20 rfl (fun hc9 => ?_) (fun hc9 => ?_)))))))))
  ·
   replace hc9 := dt hc9
   refine l_q (q_fieldAddr (o' := 1) rfl fld178_1 rfl) (l_q (q_load Tryz.isAgg9 rfl ((hb2.has (o := 1) rfl)) rfl) (l_q (q_eql_str rfl rfl rfl) (l_q (q_pick_t (v := .bool _) rfl rfl rfl) (l_nil (r_cond rfl (fun hc10 => ?_) (fun hc10 => ?_))))))
   ·
    replace hc10 := dt hc10
    refine r_region' (l_o (o_store (vs := [vint 0]) (cs' := [vint 0]) Tryz.sizeOf3 rfl rfl rfl rfl hb4 (Nat.le_of_ble_eq_true rfl) rfl rfl ?_))
    intro w11 hz11 hb4 hG11
    replace hsz : w.heap.size ≤ w11.heap.size := by rw [hz11]; exact hsz
    replace hM := hM.keep (hG11.block m hM.lt (by simp; omega))
    replace hG0 := gm_upd hG0 hG11 (by omega)
    replace hb1 := hb1.upd hG11 (by omega)
    replace hb2 := hb2.upd hG11 (by omega)
    refine l_nil (r_seq (r_seq (r_region' (l_q (q_load_agg (n := 2) Tryz.isAgg178 Tryz.sizeOf178 rfl ((hb2.cells' (cs' := [_, _]) 0 2 rfl)) rfl rfl) (l_o (o_call Tryz.call155 rfl (next_ret _ _ _) rfl ?_))))))
    rintro _ w12 ⟨bx12, rfl, hbx12, hx12, hE12⟩
    have hbs_bx12 : w.heap.size ≤ bx12 := Nat.le_trans hsz hbx12
    replace hM := hM.keep (hE12.block m hM.lt (by simp))
    replace hG0 := grown_trans hG0 (gm_ext hE12)
    replace hb1 := hb1.ext hE12
    replace hb2 := hb2.ext hE12
    replace hb4 := hb4.ext hE12
    replace hsz := Nat.le_trans hsz hE12.size
    refine l_nil (r_forget [(2, .pointer _), (3, .pointer _), (5, .pointer _), (26, .func _ _ _)] ⟨rfl, rfl, rfl, rfl, trivial⟩ (fun e13 => (r_block (r_rangeFunc' (fst := []) (cap := [_]) rfl rfl Tryz.call167 ?_))))
    intro l db wl Lp hLp hLk hEl hll hldb hlne hdbN hlN hdb hlp
    have hlt_b1 := hb1.lt
    have hlt_b2 := hb2.lt
    have hlt_b4 := hb4.lt
    have hlt_bx12 := hx12.lt
    have hltm := hM.lt
    have hszl := hEl.size
    replace hM := hM.keep (hEl.block m hM.lt (by simp))
    replace hG0 := grown_trans hG0 (gm_ext hEl)
    replace hb1 := hb1.ext hEl
    replace hb2 := hb2.ext hEl
    replace hb4 := hb4.ext hEl
    replace hx12 := hx12.ext hEl
    replace hsz := Nat.le_trans hsz hEl.size
    have hbs_l : w.heap.size ≤ l := by omega
    have hbs_db : w.heap.size ≤ db := by omega
    have hLJ : ∀ w1 w2, Below wl.heap.size w1 w2 → Lp w1 .ready none → Lp w2 .ready none := fun w1 w2 hB h => hLk _ _ _ _ h (hB.block l hlN)
    have hst0 : (0 : Int) = feA 1048576 0 s r := by show _ = start0 _ _ _; unfold start0; first | rw [if_pos ⟨‹s = []›, ‹r = []›⟩] | rw [if_neg (fun h => absurd h.1 ‹¬ s = []›)] | rw [if_neg (fun h => absurd h.2 ‹¬ r = []›)]
    rw [hst0] at hb4
    have hJ0 : FJ w m b1 b2 b4 bx12 db s r Lp 0 wl := ⟨⟨_, _, hM, hMemo⟩, hb1, hb2, hb4, hx12, hlp, hdb, hG0⟩
    refine (next1_ret l bx12 s r (FJ w m b1 b2 b4 bx12 db s r Lp) (fun _ => False) wl hs hr hr33 (by omega) hJ0 (fun k w1 hJ => hJ.cx) (fun k w1 w2 hJ hB => hJ.below hB (by omega) (by omega) (by omega) (by omega) (by omega) (by omega) (by omega) hLJ) (fun k w1 hk hJ hno => hJ.skip hno) ?_).mono ?_
    · intro k w1 hk hJ hN hstep
      have hfe := fe_eq_step (F := 1048576) hstep
      refine yieldAt_of ((hLp _ _ _).1 hJ.lp) rfl (by rfl) (by kernel_rfl) ?_
      obtain ⟨⟨es1, clock1, hM, hMemo⟩, hc2, hc3, hc5, hcx, hlp, hdb, hG0⟩ := hJ
      have hF := Fr.refl wl.heap.size w1
      have hsz : w.heap.size ≤ w1.heap.size := by omega
      refine r_forget [(2, ptr b1 0), (3, ptr b2 0), (5, ptr b4 0), (27, .agg ⟨[vint (k : Int), vint (cost (k : Int)), .func (.func (174 + k)) ⟨[]⟩ ⟨[]⟩]⟩), (28, .agg ⟨[vstr (s.drop (ofK (k : Int) s).1.length), vstr (r.drop (ofK (k : Int) s).2.length)]⟩)] ⟨rfl, rfl, rfl, rfl, rfl, trivial⟩ (fun e14 => (r_seq (r_region' (l_o (o_alloc Tryz.zeroValue214 rfl rfl ?_)))))
      intro b15 w15 hzl15 hzr15 _ hb15 hE15
      have hne_b1_b15 : b1 ≠ b15 := by have := hc2.lt; omega
      have hne_b2_b15 : b2 ≠ b15 := by have := hc3.lt; omega
      have hne_b4_b15 : b4 ≠ b15 := by have := hc5.lt; omega
      have hne_bx12_b15 : bx12 ≠ b15 := by have := hcx.lt; omega
      have hbs_b15 : w.heap.size ≤ b15 := Nat.le_trans hsz hzl15
      replace hc2 := hc2.ext hE15
      replace hc3 := hc3.ext hE15
      replace hc5 := hc5.ext hE15
      replace hcx := hcx.ext hE15
      replace hM := hM.keep (hE15.block m hM.lt (by simp))
      replace hlp := hLk _ _ _ _ hlp (hE15.block l (((hLp _ _ _).1 hlp).lt) (by simp))
      replace hdb := (hE15.block db (heap_lt hdb) (by simp)).trans hdb
      replace hG0 := grown_trans hG0 (gm_ext hE15)
      replace hF := hF.trans (Fr.of_ext hE15)
      replace hsz := Nat.le_trans hsz hE15.size
      refine l_o (o_store (vs := [vint (k : Int), vint (cost (k : Int)), .func (.func (174 + k)) ⟨[]⟩ ⟨[]⟩]) (cs' := [vint (k : Int), vint (cost (k : Int)), .func (.func (174 + k)) ⟨[]⟩ ⟨[]⟩]) Tryz.sizeOf214 rfl rfl rfl rfl hb15 (Nat.le_of_ble_eq_true rfl) rfl rfl ?_)
      intro w16 hz16 hb15 hG16
      replace hsz : w.heap.size ≤ w16.heap.size := by rw [hz16]; exact hsz
      replace hc2 := hc2.upd hG16 (by omega)
      replace hc3 := hc3.upd hG16 (by omega)
      replace hc5 := hc5.upd hG16 (by omega)
      replace hcx := hcx.upd hG16 (by omega)
      replace hM := hM.keep (hG16.block m hM.lt (by simp; omega))
      replace hlp := hLk _ _ _ _ hlp (hG16.block l (((hLp _ _ _).1 hlp).lt) (by simp; omega))
      replace hdb := (hG16.block db (heap_lt hdb) (by simp; omega)).trans hdb
      replace hG0 := gm_upd hG0 hG16 (by omega)
      replace hF := Fr.step hF hG16 (by omega)
      refine l_nil (r_region' (l_o (o_alloc Tryz.zeroValue178 rfl rfl ?_)))
      intro b17 w17 hzl17 hzr17 _ hb17 hE17
      have hne_b1_b17 : b1 ≠ b17 := by have := hc2.lt; omega
      have hne_b2_b17 : b2 ≠ b17 := by have := hc3.lt; omega
      have hne_b4_b17 : b4 ≠ b17 := by have := hc5.lt; omega
      have hne_bx12_b17 : bx12 ≠ b17 := by have := hcx.lt; omega
      have hne_b15_b17 : b15 ≠ b17 := by have := hb15.lt; omega
      have hbs_b17 : w.heap.size ≤ b17 := Nat.le_trans hsz hzl17
      replace hc2 := hc2.ext hE17
      replace hc3 := hc3.ext hE17
      replace hc5 := hc5.ext hE17
      replace hcx := hcx.ext hE17
      replace hM := hM.keep (hE17.block m hM.lt (by simp))
      replace hlp := hLk _ _ _ _ hlp (hE17.block l (((hLp _ _ _).1 hlp).lt) (by simp))
      replace hdb := (hE17.block db (heap_lt hdb) (by simp)).trans hdb
      replace hG0 := grown_trans hG0 (gm_ext hE17)
      replace hF := hF.trans (Fr.of_ext hE17)
      replace hb15 := hb15.ext hE17
      replace hsz := Nat.le_trans hsz hE17.size
      refine l_o (o_store (vs := [vstr (s.drop (ofK (k : Int) s).1.length), vstr (r.drop (ofK (k : Int) s).2.length)]) (cs' := [vstr (s.drop (ofK (k : Int) s).1.length), vstr (r.drop (ofK (k : Int) s).2.length)]) Tryz.sizeOf178 rfl rfl rfl rfl hb17 (Nat.le_of_ble_eq_true rfl) rfl rfl ?_)
      intro w18 hz18 hb17 hG18
      replace hsz : w.heap.size ≤ w18.heap.size := by rw [hz18]; exact hsz
      replace hc2 := hc2.upd hG18 (by omega)
      replace hc3 := hc3.upd hG18 (by omega)
      replace hc5 := hc5.upd hG18 (by omega)
      replace hcx := hcx.upd hG18 (by omega)
      replace hM := hM.keep (hG18.block m hM.lt (by simp; omega))
      replace hlp := hLk _ _ _ _ hlp (hG18.block l (((hLp _ _ _).1 hlp).lt) (by simp; omega))
      replace hdb := (hG18.block db (heap_lt hdb) (by simp; omega)).trans hdb
      replace hG0 := gm_upd hG0 hG18 (by omega)
      replace hF := Fr.step hF hG18 (by omega)
      replace hb15 := hb15.upd hG18 (by omega)
      refine l_nil (r_begin rfl ((hLp _ _ _).1 hlp) ?_)
      intro wb19 hzb19 hgb19 hl19
      replace hsz : w.heap.size ≤ wb19.heap.size := by rw [hzb19]; exact hsz
      replace hc2 := hc2.upd hgb19 (by omega)
      replace hc3 := hc3.upd hgb19 (by omega)
      replace hc5 := hc5.upd hgb19 (by omega)
      replace hcx := hcx.upd hgb19 (by omega)
      replace hM := hM.keep (hgb19.block m hM.lt (by simp; omega))
      replace hdb := (hgb19.block db (heap_lt hdb) (by simp; omega)).trans hdb
      replace hG0 := gm_upd hG0 hgb19 (by omega)
      replace hF := Fr.step hF hgb19 (by omega)
      replace hb15 := hb15.upd hgb19 (by omega)
      replace hb17 := hb17.upd hgb19 (by omega)
      have hlp := (hLp _ _ _).2 hl19
      refine r_block (r_draw (gm_refl m) (gm_trans m) [0, 1, 2, 3, 4, 5, 6, 7, 8, 9] [5, 7, 8, 9, 1009] 2 (by kernel_rfl) (by kernel_rfl) ?_)
      intro w20 _ hE20
      replace hc2 := hc2.ext hE20
      replace hc3 := hc3.ext hE20
      replace hc5 := hc5.ext hE20
      replace hcx := hcx.ext hE20
      replace hM := hM.keep (hE20.block m hM.lt (by simp))
      replace hdb := (hE20.block db (heap_lt hdb) (by simp)).trans hdb
      replace hG0 := grown_trans hG0 (gm_ext hE20)
      replace hF := hF.trans (Fr.of_ext hE20)
      replace hb15 := hb15.ext hE20
      replace hb17 := hb17.ext hE20
      replace hlp := hLk _ _ _ _ hlp (hE20.block l (((hLp _ _ _).1 hlp).lt) (by simp))
      replace hsz := Nat.le_trans hsz hE20.size
      refine m_q rfl rfl (fun w' hC' => q_load Tryz.isAgg3 rfl (((hc5.step hC' (by simp; omega)).has (o := 0) rfl)) rfl) (m_q rfl rfl (fun w' hC' => q_fieldAddr (o' := 1) rfl fld214_1 rfl) (m_q rfl rfl (fun w' hC' => q_load Tryz.isAgg3 rfl (((hb15.step hC' (by simp; omega)).has (o := 1) rfl)) rfl) (m_q rfl rfl (fun w' hC' => q_load Tryz.isAgg175 rfl (((hc2.step hC' (by simp; omega)).has (o := 0) rfl)) rfl) (m_q rfl rfl (fun w' hC' => q_load_agg (n := 2) Tryz.isAgg178 Tryz.sizeOf178 rfl (((hb17.step hC' (by simp; omega)).cells' (cs' := [_, _]) 0 2 rfl)) rfl rfl) (m_o rfl rfl (o_call Tryz.call121 rfl (ih (s.drop (ofK (k : Int) s).1.length) (r.drop (ofK (k : Int) s).2.length) _ _ _ (ofK_dec hstep) (by rw [List.length_drop]; omega) (by rw [List.length_drop]; omega) (fun x hx => hr33 x (List.mem_of_mem_drop hx)) hM hMemo) rfl ?_))))))
      rintro _ w21 ⟨rfl, esc21, ckc21, hMc21, hMm21, hGc21⟩
      refine ⟨hGc21, ?_⟩
      replace hsz : w.heap.size ≤ w21.heap.size := Nat.le_trans hsz hGc21.size
      replace hc2 := hc2.upd hGc21 (by omega)
      replace hc3 := hc3.upd hGc21 (by omega)
      replace hc5 := hc5.upd hGc21 (by omega)
      replace hcx := hcx.upd hGc21 (by omega)
      replace hdb := (hGc21.block db (heap_lt hdb) (by simp; omega)).trans hdb
      replace hG0 := gm_upd hG0 hGc21 (by omega)
      replace hF := Fr.step hF hGc21 (by omega)
      replace hb15 := hb15.upd hGc21 (by omega)
      replace hb17 := hb17.upd hGc21 (by omega)
      replace hlp := hLk _ _ _ _ hlp (hGc21.block l (((hLp _ _ _).1 hlp).lt) (by simp; omega))
      have hM := hMc21
      have hMemo := hMm21
      refine m_q rfl rfl (fun w' hC' => q_add rfl rfl (by have := fe_bounds (F := 1048576) (by decide) (s.drop (ofK (k : Int) s).1.length) (r.drop (ofK (k : Int) s).2.length); have := cost_le (k : Int); omega) rfl) (m_o rfl rfl (o_buildSlice (el := 3) (cs := [vint (feA 1048576 k s r), vint ((cost (k : Int)) + (fe 1048576 (s.drop (ofK (k : Int) s).1.length) (r.drop (ofK (k : Int) s).2.length)))]) Tryz.underlying31 el3 (by decide) (by kernel_rfl) rfl (by decide) rfl ?_))
      intro b22 w22 hzl22 hzr22 _ hb22 hE22 ho22
      refine ⟨(gm_ext hE22), ?_⟩
      have hne_b1_b22 : b1 ≠ b22 := by have := hc2.lt; omega
      have hne_b2_b22 : b2 ≠ b22 := by have := hc3.lt; omega
      have hne_b4_b22 : b4 ≠ b22 := by have := hc5.lt; omega
      have hne_bx12_b22 : bx12 ≠ b22 := by have := hcx.lt; omega
      have hne_b15_b22 : b15 ≠ b22 := by have := hb15.lt; omega
      have hne_b17_b22 : b17 ≠ b22 := by have := hb17.lt; omega
      have hbs_b22 : w.heap.size ≤ b22 := Nat.le_trans hsz hzl22
      replace hc2 := hc2.ext hE22
      replace hc3 := hc3.ext hE22
      replace hc5 := hc5.ext hE22
      replace hcx := hcx.ext hE22
      replace hdb := (hE22.block db (heap_lt hdb) (by simp)).trans hdb
      replace hG0 := grown_trans hG0 (gm_ext hE22)
      replace hF := hF.trans (Fr.of_ext hE22)
      replace hlp := hLk _ _ _ _ hlp (hE22.block l (((hLp _ _ _).1 hlp).lt) (by simp))
      replace hM := hM.keep (hE22.block m hM.lt (by simp))
      replace hsz := Nat.le_trans hsz hE22.size
      refine m_o rfl rfl (o_call Tryz.call156 rfl (minimum_ret _ _ [feA 1048576 k s r, (cost (k : Int)) + (fe 1048576 (s.drop (ofK (k : Int) s).1.length) (r.drop (ofK (k : Int) s).2.length))] _ (Row.of_owns ho22) (by first | omega | simp) (by first | omega | simp)) rfl ?_)
      rintro _ w23 ⟨rfl, hE23⟩
      refine ⟨(gm_ext hE23), ?_⟩
      replace hc2 := hc2.ext hE23
      replace hc3 := hc3.ext hE23
      replace hc5 := hc5.ext hE23
      replace hcx := hcx.ext hE23
      replace hdb := (hE23.block db (heap_lt hdb) (by simp)).trans hdb
      replace hG0 := grown_trans hG0 (gm_ext hE23)
      replace hF := hF.trans (Fr.of_ext hE23)
      replace hlp := hLk _ _ _ _ hlp (hE23.block l (((hLp _ _ _).1 hlp).lt) (by simp))
      replace hM := hM.keep (hE23.block m hM.lt (by simp))
      replace hsz := Nat.le_trans hsz hE23.size
      refine m_last rfl rfl rfl (o_store (vs := [vint (minOf [feA 1048576 k s r, (cost (k : Int)) + (fe 1048576 (s.drop (ofK (k : Int) s).1.length) (r.drop (ofK (k : Int) s).2.length))])]) (cs' := [vint (minOf [feA 1048576 k s r, (cost (k : Int)) + (fe 1048576 (s.drop (ofK (k : Int) s).1.length) (r.drop (ofK (k : Int) s).2.length))])]) Tryz.sizeOf3 rfl rfl rfl rfl hc5 (Nat.le_of_ble_eq_true rfl) rfl rfl ?_)
      intro w24 hz24 hc5 hG24
      replace hsz : w.heap.size ≤ w24.heap.size := by rw [hz24]; exact hsz
      replace hc2 := hc2.upd hG24 (by omega)
      replace hc3 := hc3.upd hG24 (by omega)
      replace hcx := hcx.upd hG24 (by omega)
      replace hdb := (hG24.block db (heap_lt hdb) (by simp; omega)).trans hdb
      replace hG0 := gm_upd hG0 hG24 (by omega)
      replace hF := Fr.step hF hG24 (by omega)
      replace hlp := hLk _ _ _ _ hlp (hG24.block l (((hLp _ _ _).1 hlp).lt) (by simp; omega))
      replace hM := hM.keep (hG24.block m hM.lt (by simp; omega))
      refine m_nil (r_forget [] trivial (fun e25 => (r_inBlock ?_)))
      have hval : minOf [feA 1048576 k s r, (cost (k : Int)) + (fe 1048576 (s.drop (ofK (k : Int) s).1.length) (r.drop (ofK (k : Int) s).2.length))] = feA 1048576 (k + 1) s r := by rw [min_two]; exact hfe
      rw [hval] at hc5
      refine r_round_end rfl ((hLp _ _ _).1 hlp) ?_
      intro we26 hze26 hge26 hl26
      replace hc2 := hc2.upd hge26 (by omega)
      replace hc3 := hc3.upd hge26 (by omega)
      replace hc5 := hc5.upd hge26 (by omega)
      replace hcx := hcx.upd hge26 (by omega)
      replace hdb := (hge26.block db (heap_lt hdb) (by simp; omega)).trans hdb
      replace hG0 := gm_upd hG0 hge26 (by omega)
      replace hF := Fr.step hF hge26 (by omega)
      replace hM := hM.keep (hge26.block m hM.lt (by simp; omega))
      have hlp := (hLp _ _ _).2 hl26
      exact ⟨true, rfl, fun _ => ⟨⟨_, _, hM, hMemo⟩, hc2, hc3, hc5, hcx, hlp, hdb, hG0⟩, (fun h => by cases h), hF, hcx⟩
    · rintro _ w2 (hJ | hJ)
      obtain ⟨⟨es2, clock2, hM2, hMemo2⟩, hc2, hc3, hc5, hcx, hlp, hdb, hG0⟩ := hJ
      have hMemo := hMemo2
      have hM := hM2
      refine ⟨.ready, none, (by decide), hlp, rfl, ?_⟩
      intro w3 hz3 hg3
      have hsz : w.heap.size ≤ w3.heap.size := by have := hG0.size; omega
      replace hc2 := hc2.upd hg3 (by omega)
      replace hc3 := hc3.upd hg3 (by omega)
      replace hc5 := hc5.upd hg3 (by omega)
      replace hM := hM.keep (hg3.block m hM.lt (by simp; omega))
      replace hdb := (hg3.block db (heap_lt hdb) (by simp; omega)).trans hdb
      replace hG0 := gm_upd hG0 hg3 (by omega)
      have hfe6 := fe_six (F := 1048576) s r
      rw [hfe6] at hc5
      refine r_inBlock (r_seq (r_region' (l_q (q_load Tryz.isAgg175 rfl ((hc2.has (o := 0) rfl)) rfl) (l_q (q_load_agg (n := 2) Tryz.isAgg178 Tryz.sizeOf178 rfl ((hc3.cells' (cs' := [_, _]) 0 2 rfl)) rfl rfl) (l_q (q_load Tryz.isAgg3 rfl ((hc5.has (o := 0) rfl)) rfl) (l_o (o_mapUpdate Tryz.underlying175 Tryz.underlying178 rfl rfl rfl hM (fun em w => run_checkKey_pair (n := 9998) Tryz.underlying178 ⟨by decide, rfl, rfl⟩ ⟨by decide, rfl, rfl⟩ Tryz.underlying9 Tryz.isAgg9) (asks_memo hMemo _ _) (sameBits_pair _ _) rfl ?_)))))))
      intro es27 ck27 w27 hz27 hM27 hG27 hin27
      replace hsz : w.heap.size ≤ w27.heap.size := by rw [hz27]; exact hsz
      replace hc2 := hc2.upd hG27 (by omega)
      replace hc3 := hc3.upd hG27 (by omega)
      replace hc5 := hc5.upd hG27 (by omega)
      replace hdb := (hG27.block db (heap_lt hdb) (by simp; omega)).trans hdb
      replace hG0 := gm_upd hG0 hG27 (by omega)
      have hM := hM27
      replace hMemo := memo_put hMemo hin27 (by rfl)
      refine l_nil (r_seq (r_region' (l_q (q_load Tryz.isAgg3 rfl ((hc5.has (o := 0) rfl)) rfl) (l_q (qai rfl rfl) (l_nil ?_)))))
      obtain ⟨wf28, hUf, hzf28, hGf28⟩ := unw_one hdb
      replace hsz : w.heap.size ≤ wf28.heap.size := by rw [hzf28]; exact hsz
      replace hc2 := hc2.upd hGf28 (by omega)
      replace hc3 := hc3.upd hGf28 (by omega)
      replace hc5 := hc5.upd hGf28 (by omega)
      replace hG0 := gm_upd hG0 hGf28 (by omega)
      replace hM := hM.keep (hGf28.block m hM.lt (by simp; omega))
      refine r_ret_ (vs := [.int _ _]) rfl Tryz.func121 rfl (hUf) ⟨rfl, trivial⟩ ?_
      exact ⟨rfl, _, _, hM, hMemo, hG0⟩
      · exact hJ.elim
   ·
    replace hc10 := df hc10
    refine r_skip (r_seq (r_seq (r_region' (l_q (q_load_agg (n := 2) Tryz.isAgg178 Tryz.sizeOf178 rfl ((hb2.cells' (cs' := [_, _]) 0 2 rfl)) rfl rfl) (l_o (o_call Tryz.call155 rfl (next_ret _ _ _) rfl ?_))))))
    rintro _ w29 ⟨bx29, rfl, hbx29, hx29, hE29⟩
    have hbs_bx29 : w.heap.size ≤ bx29 := Nat.le_trans hsz hbx29
    replace hM := hM.keep (hE29.block m hM.lt (by simp))
    replace hG0 := grown_trans hG0 (gm_ext hE29)
    replace hb1 := hb1.ext hE29
    replace hb2 := hb2.ext hE29
    replace hb4 := hb4.ext hE29
    replace hsz := Nat.le_trans hsz hE29.size
    refine l_nil (r_forget [(2, .pointer _), (3, .pointer _), (5, .pointer _), (26, .func _ _ _)] ⟨rfl, rfl, rfl, rfl, trivial⟩ (fun e30 => (r_block (r_rangeFunc' (fst := []) (cap := [_]) rfl rfl Tryz.call167 ?_))))
    intro l db wl Lp hLp hLk hEl hll hldb hlne hdbN hlN hdb hlp
    have hlt_b1 := hb1.lt
    have hlt_b2 := hb2.lt
    have hlt_b4 := hb4.lt
    have hlt_bx29 := hx29.lt
    have hltm := hM.lt
    have hszl := hEl.size
    replace hM := hM.keep (hEl.block m hM.lt (by simp))
    replace hG0 := grown_trans hG0 (gm_ext hEl)
    replace hb1 := hb1.ext hEl
    replace hb2 := hb2.ext hEl
    replace hb4 := hb4.ext hEl
    replace hx29 := hx29.ext hEl
    replace hsz := Nat.le_trans hsz hEl.size
    have hbs_l : w.heap.size ≤ l := by omega
    have hbs_db : w.heap.size ≤ db := by omega
    have hLJ : ∀ w1 w2, Below wl.heap.size w1 w2 → Lp w1 .ready none → Lp w2 .ready none := fun w1 w2 hB h => hLk _ _ _ _ h (hB.block l hlN)
    have hst0 : (1048576 : Int) = feA 1048576 0 s r := by show _ = start0 _ _ _; unfold start0; first | rw [if_pos ⟨‹s = []›, ‹r = []›⟩] | rw [if_neg (fun h => absurd h.1 ‹¬ s = []›)] | rw [if_neg (fun h => absurd h.2 ‹¬ r = []›)]
    rw [hst0] at hb4
    have hJ0 : FJ w m b1 b2 b4 bx29 db s r Lp 0 wl := ⟨⟨_, _, hM, hMemo⟩, hb1, hb2, hb4, hx29, hlp, hdb, hG0⟩
    refine (next1_ret l bx29 s r (FJ w m b1 b2 b4 bx29 db s r Lp) (fun _ => False) wl hs hr hr33 (by omega) hJ0 (fun k w1 hJ => hJ.cx) (fun k w1 w2 hJ hB => hJ.below hB (by omega) (by omega) (by omega) (by omega) (by omega) (by omega) (by omega) hLJ) (fun k w1 hk hJ hno => hJ.skip hno) ?_).mono ?_
    · intro k w1 hk hJ hN hstep
      have hfe := fe_eq_step (F := 1048576) hstep
      refine yieldAt_of ((hLp _ _ _).1 hJ.lp) rfl (by rfl) (by kernel_rfl) ?_
      obtain ⟨⟨es1, clock1, hM, hMemo⟩, hc2, hc3, hc5, hcx, hlp, hdb, hG0⟩ := hJ
      have hF := Fr.refl wl.heap.size w1
      have hsz : w.heap.size ≤ w1.heap.size := by omega
      refine r_forget [(2, ptr b1 0), (3, ptr b2 0), (5, ptr b4 0), (27, .agg ⟨[vint (k : Int), vint (cost (k : Int)), .func (.func (174 + k)) ⟨[]⟩ ⟨[]⟩]⟩), (28, .agg ⟨[vstr (s.drop (ofK (k : Int) s).1.length), vstr (r.drop (ofK (k : Int) s).2.length)]⟩)] ⟨rfl, rfl, rfl, rfl, rfl, trivial⟩ (fun e31 => (r_seq (r_region' (l_o (o_alloc Tryz.zeroValue214 rfl rfl ?_)))))
      intro b32 w32 hzl32 hzr32 _ hb32 hE32
      have hne_b1_b32 : b1 ≠ b32 := by have := hc2.lt; omega
      have hne_b2_b32 : b2 ≠ b32 := by have := hc3.lt; omega
      have hne_b4_b32 : b4 ≠ b32 := by have := hc5.lt; omega
      have hne_bx29_b32 : bx29 ≠ b32 := by have := hcx.lt; omega
      have hbs_b32 : w.heap.size ≤ b32 := Nat.le_trans hsz hzl32
      replace hc2 := hc2.ext hE32
      replace hc3 := hc3.ext hE32
      replace hc5 := hc5.ext hE32
      replace hcx := hcx.ext hE32
      replace hM := hM.keep (hE32.block m hM.lt (by simp))
      replace hlp := hLk _ _ _ _ hlp (hE32.block l (((hLp _ _ _).1 hlp).lt) (by simp))
      replace hdb := (hE32.block db (heap_lt hdb) (by simp)).trans hdb
      replace hG0 := grown_trans hG0 (gm_ext hE32)
      replace hF := hF.trans (Fr.of_ext hE32)
      replace hsz := Nat.le_trans hsz hE32.size
      refine l_o (o_store (vs := [vint (k : Int), vint (cost (k : Int)), .func (.func (174 + k)) ⟨[]⟩ ⟨[]⟩]) (cs' := [vint (k : Int), vint (cost (k : Int)), .func (.func (174 + k)) ⟨[]⟩ ⟨[]⟩]) Tryz.sizeOf214 rfl rfl rfl rfl hb32 (Nat.le_of_ble_eq_true rfl) rfl rfl ?_)
      intro w33 hz33 hb32 hG33
      replace hsz : w.heap.size ≤ w33.heap.size := by rw [hz33]; exact hsz
      replace hc2 := hc2.upd hG33 (by omega)
      replace hc3 := hc3.upd hG33 (by omega)
      replace hc5 := hc5.upd hG33 (by omega)
      replace hcx := hcx.upd hG33 (by omega)
      replace hM := hM.keep (hG33.block m hM.lt (by simp; omega))
      replace hlp := hLk _ _ _ _ hlp (hG33.block l (((hLp _ _ _).1 hlp).lt) (by simp; omega))
      replace hdb := (hG33.block db (heap_lt hdb) (by simp; omega)).trans hdb
      replace hG0 := gm_upd hG0 hG33 (by omega)
      replace hF := Fr.step hF hG33 (by omega)
      refine l_nil (r_region' (l_o (o_alloc Tryz.zeroValue178 rfl rfl ?_)))
      intro b34 w34 hzl34 hzr34 _ hb34 hE34
      have hne_b1_b34 : b1 ≠ b34 := by have := hc2.lt; omega
      have hne_b2_b34 : b2 ≠ b34 := by have := hc3.lt; omega
      have hne_b4_b34 : b4 ≠ b34 := by have := hc5.lt; omega
      have hne_bx29_b34 : bx29 ≠ b34 := by have := hcx.lt; omega
      have hne_b32_b34 : b32 ≠ b34 := by have := hb32.lt; omega
      have hbs_b34 : w.heap.size ≤ b34 := Nat.le_trans hsz hzl34
      replace hc2 := hc2.ext hE34
      replace hc3 := hc3.ext hE34
      replace hc5 := hc5.ext hE34
      replace hcx := hcx.ext hE34
      replace hM := hM.keep (hE34.block m hM.lt (by simp))
      replace hlp := hLk _ _ _ _ hlp (hE34.block l (((hLp _ _ _).1 hlp).lt) (by simp))
      replace hdb := (hE34.block db (heap_lt hdb) (by simp)).trans hdb
      replace hG0 := grown_trans hG0 (gm_ext hE34)
      replace hF := hF.trans (Fr.of_ext hE34)
      replace hb32 := hb32.ext hE34
      replace hsz := Nat.le_trans hsz hE34.size
      refine l_o (o_store (vs := [vstr (s.drop (ofK (k : Int) s).1.length), vstr (r.drop (ofK (k : Int) s).2.length)]) (cs' := [vstr (s.drop (ofK (k : Int) s).1.length), vstr (r.drop (ofK (k : Int) s).2.length)]) Tryz.sizeOf178 rfl rfl rfl rfl hb34 (Nat.le_of_ble_eq_true rfl) rfl rfl ?_)
      intro w35 hz35 hb34 hG35
      replace hsz : w.heap.size ≤ w35.heap.size := by rw [hz35]; exact hsz
      replace hc2 := hc2.upd hG35 (by omega)
      replace hc3 := hc3.upd hG35 (by omega)
      replace hc5 := hc5.upd hG35 (by omega)
      replace hcx := hcx.upd hG35 (by omega)
      replace hM := hM.keep (hG35.block m hM.lt (by simp; omega))
      replace hlp := hLk _ _ _ _ hlp (hG35.block l (((hLp _ _ _).1 hlp).lt) (by simp; omega))
      replace hdb := (hG35.block db (heap_lt hdb) (by simp; omega)).trans hdb
      replace hG0 := gm_upd hG0 hG35 (by omega)
      replace hF := Fr.step hF hG35 (by omega)
      replace hb32 := hb32.upd hG35 (by omega)
      refine l_nil (r_begin rfl ((hLp _ _ _).1 hlp) ?_)
      intro wb36 hzb36 hgb36 hl36
      replace hsz : w.heap.size ≤ wb36.heap.size := by rw [hzb36]; exact hsz
      replace hc2 := hc2.upd hgb36 (by omega)
      replace hc3 := hc3.upd hgb36 (by omega)
      replace hc5 := hc5.upd hgb36 (by omega)
      replace hcx := hcx.upd hgb36 (by omega)
      replace hM := hM.keep (hgb36.block m hM.lt (by simp; omega))
      replace hdb := (hgb36.block db (heap_lt hdb) (by simp; omega)).trans hdb
      replace hG0 := gm_upd hG0 hgb36 (by omega)
      replace hF := Fr.step hF hgb36 (by omega)
      replace hb32 := hb32.upd hgb36 (by omega)
      replace hb34 := hb34.upd hgb36 (by omega)
      have hlp := (hLp _ _ _).2 hl36
      refine r_block (r_draw (gm_refl m) (gm_trans m) [0, 1, 2, 3, 4, 5, 6, 7, 8, 9] [5, 7, 8, 9, 1009] 2 (by kernel_rfl) (by kernel_rfl) ?_)
      intro w37 _ hE37
      replace hc2 := hc2.ext hE37
      replace hc3 := hc3.ext hE37
      replace hc5 := hc5.ext hE37
      replace hcx := hcx.ext hE37
      replace hM := hM.keep (hE37.block m hM.lt (by simp))
      replace hdb := (hE37.block db (heap_lt hdb) (by simp)).trans hdb
      replace hG0 := grown_trans hG0 (gm_ext hE37)
      replace hF := hF.trans (Fr.of_ext hE37)
      replace hb32 := hb32.ext hE37
      replace hb34 := hb34.ext hE37
      replace hlp := hLk _ _ _ _ hlp (hE37.block l (((hLp _ _ _).1 hlp).lt) (by simp))
      replace hsz := Nat.le_trans hsz hE37.size
      refine m_q rfl rfl (fun w' hC' => q_load Tryz.isAgg3 rfl (((hc5.step hC' (by simp; omega)).has (o := 0) rfl)) rfl) (m_q rfl rfl (fun w' hC' => q_fieldAddr (o' := 1) rfl fld214_1 rfl) (m_q rfl rfl (fun w' hC' => q_load Tryz.isAgg3 rfl (((hb32.step hC' (by simp; omega)).has (o := 1) rfl)) rfl) (m_q rfl rfl (fun w' hC' => q_load Tryz.isAgg175 rfl (((hc2.step hC' (by simp; omega)).has (o := 0) rfl)) rfl) (m_q rfl rfl (fun w' hC' => q_load_agg (n := 2) Tryz.isAgg178 Tryz.sizeOf178 rfl (((hb34.step hC' (by simp; omega)).cells' (cs' := [_, _]) 0 2 rfl)) rfl rfl) (m_o rfl rfl (o_call Tryz.call121 rfl (ih (s.drop (ofK (k : Int) s).1.length) (r.drop (ofK (k : Int) s).2.length) _ _ _ (ofK_dec hstep) (by rw [List.length_drop]; omega) (by rw [List.length_drop]; omega) (fun x hx => hr33 x (List.mem_of_mem_drop hx)) hM hMemo) rfl ?_))))))
      rintro _ w38 ⟨rfl, esc38, ckc38, hMc38, hMm38, hGc38⟩
      refine ⟨hGc38, ?_⟩
      replace hsz : w.heap.size ≤ w38.heap.size := Nat.le_trans hsz hGc38.size
      replace hc2 := hc2.upd hGc38 (by omega)
      replace hc3 := hc3.upd hGc38 (by omega)
      replace hc5 := hc5.upd hGc38 (by omega)
      replace hcx := hcx.upd hGc38 (by omega)
      replace hdb := (hGc38.block db (heap_lt hdb) (by simp; omega)).trans hdb
      replace hG0 := gm_upd hG0 hGc38 (by omega)
      replace hF := Fr.step hF hGc38 (by omega)
      replace hb32 := hb32.upd hGc38 (by omega)
      replace hb34 := hb34.upd hGc38 (by omega)
      replace hlp := hLk _ _ _ _ hlp (hGc38.block l (((hLp _ _ _).1 hlp).lt) (by simp; omega))
      have hM := hMc38
      have hMemo := hMm38
      refine m_q rfl rfl (fun w' hC' => q_add rfl rfl (by have := fe_bounds (F := 1048576) (by decide) (s.drop (ofK (k : Int) s).1.length) (r.drop (ofK (k : Int) s).2.length); have := cost_le (k : Int); omega) rfl) (m_o rfl rfl (o_buildSlice (el := 3) (cs := [vint (feA 1048576 k s r), vint ((cost (k : Int)) + (fe 1048576 (s.drop (ofK (k : Int) s).1.length) (r.drop (ofK (k : Int) s).2.length)))]) Tryz.underlying31 el3 (by decide) (by kernel_rfl) rfl (by decide) rfl ?_))
      intro b39 w39 hzl39 hzr39 _ hb39 hE39 ho39
      refine ⟨(gm_ext hE39), ?_⟩
      have hne_b1_b39 : b1 ≠ b39 := by have := hc2.lt; omega
      have hne_b2_b39 : b2 ≠ b39 := by have := hc3.lt; omega
      have hne_b4_b39 : b4 ≠ b39 := by have := hc5.lt; omega
      have hne_bx29_b39 : bx29 ≠ b39 := by have := hcx.lt; omega
      have hne_b32_b39 : b32 ≠ b39 := by have := hb32.lt; omega
      have hne_b34_b39 : b34 ≠ b39 := by have := hb34.lt; omega
      have hbs_b39 : w.heap.size ≤ b39 := Nat.le_trans hsz hzl39
      replace hc2 := hc2.ext hE39
      replace hc3 := hc3.ext hE39
      replace hc5 := hc5.ext hE39
      replace hcx := hcx.ext hE39
      replace hdb := (hE39.block db (heap_lt hdb) (by simp)).trans hdb
      replace hG0 := grown_trans hG0 (gm_ext hE39)
      replace hF := hF.trans (Fr.of_ext hE39)
      replace hlp := hLk _ _ _ _ hlp (hE39.block l (((hLp _ _ _).1 hlp).lt) (by simp))
      replace hM := hM.keep (hE39.block m hM.lt (by simp))
      replace hsz := Nat.le_trans hsz hE39.size
      refine m_o rfl rfl (o_call Tryz.call156 rfl (minimum_ret _ _ [feA 1048576 k s r, (cost (k : Int)) + (fe 1048576 (s.drop (ofK (k : Int) s).1.length) (r.drop (ofK (k : Int) s).2.length))] _ (Row.of_owns ho39) (by first | omega | simp) (by first | omega | simp)) rfl ?_)
      rintro _ w40 ⟨rfl, hE40⟩
      refine ⟨(gm_ext hE40), ?_⟩
      replace hc2 := hc2.ext hE40
      replace hc3 := hc3.ext hE40
      replace hc5 := hc5.ext hE40
      replace hcx := hcx.ext hE40
      replace hdb := (hE40.block db (heap_lt hdb) (by simp)).trans hdb
      replace hG0 := grown_trans hG0 (gm_ext hE40)
      replace hF := hF.trans (Fr.of_ext hE40)
      replace hlp := hLk _ _ _ _ hlp (hE40.block l (((hLp _ _ _).1 hlp).lt) (by simp))
      replace hM := hM.keep (hE40.block m hM.lt (by simp))
      replace hsz := Nat.le_trans hsz hE40.size
      refine m_last rfl rfl rfl (o_store (vs := [vint (minOf [feA 1048576 k s r, (cost (k : Int)) + (fe 1048576 (s.drop (ofK (k : Int) s).1.length) (r.drop (ofK (k : Int) s).2.length))])]) (cs' := [vint (minOf [feA 1048576 k s r, (cost (k : Int)) + (fe 1048576 (s.drop (ofK (k : Int) s).1.length) (r.drop (ofK (k : Int) s).2.length))])]) Tryz.sizeOf3 rfl rfl rfl rfl hc5 (Nat.le_of_ble_eq_true rfl) rfl rfl ?_)
      intro w41 hz41 hc5 hG41
      replace hsz : w.heap.size ≤ w41.heap.size := by rw [hz41]; exact hsz
      replace hc2 := hc2.upd hG41 (by omega)
      replace hc3 := hc3.upd hG41 (by omega)
      replace hcx := hcx.upd hG41 (by omega)
      replace hdb := (hG41.block db (heap_lt hdb) (by simp; omega)).trans hdb
      replace hG0 := gm_upd hG0 hG41 (by omega)
      replace hF := Fr.step hF hG41 (by omega)
      replace hlp := hLk _ _ _ _ hlp (hG41.block l (((hLp _ _ _).1 hlp).lt) (by simp; omega))
      replace hM := hM.keep (hG41.block m hM.lt (by simp; omega))
      refine m_nil (r_forget [] trivial (fun e42 => (r_inBlock ?_)))
      have hval : minOf [feA 1048576 k s r, (cost (k : Int)) + (fe 1048576 (s.drop (ofK (k : Int) s).1.length) (r.drop (ofK (k : Int) s).2.length))] = feA 1048576 (k + 1) s r := by rw [min_two]; exact hfe
      rw [hval] at hc5
      refine r_round_end rfl ((hLp _ _ _).1 hlp) ?_
      intro we43 hze43 hge43 hl43
      replace hc2 := hc2.upd hge43 (by omega)
      replace hc3 := hc3.upd hge43 (by omega)
      replace hc5 := hc5.upd hge43 (by omega)
      replace hcx := hcx.upd hge43 (by omega)
      replace hdb := (hge43.block db (heap_lt hdb) (by simp; omega)).trans hdb
      replace hG0 := gm_upd hG0 hge43 (by omega)
      replace hF := Fr.step hF hge43 (by omega)
      replace hM := hM.keep (hge43.block m hM.lt (by simp; omega))
      have hlp := (hLp _ _ _).2 hl43
      exact ⟨true, rfl, fun _ => ⟨⟨_, _, hM, hMemo⟩, hc2, hc3, hc5, hcx, hlp, hdb, hG0⟩, (fun h => by cases h), hF, hcx⟩
    · rintro _ w2 (hJ | hJ)
      obtain ⟨⟨es2, clock2, hM2, hMemo2⟩, hc2, hc3, hc5, hcx, hlp, hdb, hG0⟩ := hJ
      have hMemo := hMemo2
      have hM := hM2
      refine ⟨.ready, none, (by decide), hlp, rfl, ?_⟩
      intro w3 hz3 hg3
      have hsz : w.heap.size ≤ w3.heap.size := by have := hG0.size; omega
      replace hc2 := hc2.upd hg3 (by omega)
      replace hc3 := hc3.upd hg3 (by omega)
      replace hc5 := hc5.upd hg3 (by omega)
      replace hM := hM.keep (hg3.block m hM.lt (by simp; omega))
      replace hdb := (hg3.block db (heap_lt hdb) (by simp; omega)).trans hdb
      replace hG0 := gm_upd hG0 hg3 (by omega)
      have hfe6 := fe_six (F := 1048576) s r
      rw [hfe6] at hc5
      refine r_inBlock (r_seq (r_region' (l_q (q_load Tryz.isAgg175 rfl ((hc2.has (o := 0) rfl)) rfl) (l_q (q_load_agg (n := 2) Tryz.isAgg178 Tryz.sizeOf178 rfl ((hc3.cells' (cs' := [_, _]) 0 2 rfl)) rfl rfl) (l_q (q_load Tryz.isAgg3 rfl ((hc5.has (o := 0) rfl)) rfl) (l_o (o_mapUpdate Tryz.underlying175 Tryz.underlying178 rfl rfl rfl hM (fun em w => run_checkKey_pair (n := 9998) Tryz.underlying178 ⟨by decide, rfl, rfl⟩ ⟨by decide, rfl, rfl⟩ Tryz.underlying9 Tryz.isAgg9) (asks_memo hMemo _ _) (sameBits_pair _ _) rfl ?_)))))))
      intro es44 ck44 w44 hz44 hM44 hG44 hin44
      replace hsz : w.heap.size ≤ w44.heap.size := by rw [hz44]; exact hsz
      replace hc2 := hc2.upd hG44 (by omega)
      replace hc3 := hc3.upd hG44 (by omega)
      replace hc5 := hc5.upd hG44 (by omega)
      replace hdb := (hG44.block db (heap_lt hdb) (by simp; omega)).trans hdb
      replace hG0 := gm_upd hG0 hG44 (by omega)
      have hM := hM44
      replace hMemo := memo_put hMemo hin44 (by rfl)
      refine l_nil (r_seq (r_region' (l_q (q_load Tryz.isAgg3 rfl ((hc5.has (o := 0) rfl)) rfl) (l_q (qai rfl rfl) (l_nil ?_)))))
      obtain ⟨wf45, hUf, hzf45, hGf45⟩ := unw_one hdb
      replace hsz : w.heap.size ≤ wf45.heap.size := by rw [hzf45]; exact hsz
      replace hc2 := hc2.upd hGf45 (by omega)
      replace hc3 := hc3.upd hGf45 (by omega)
      replace hc5 := hc5.upd hGf45 (by omega)
      replace hG0 := gm_upd hG0 hGf45 (by omega)
      replace hM := hM.keep (hGf45.block m hM.lt (by simp; omega))
      refine r_ret_ (vs := [.int _ _]) rfl Tryz.func121 rfl (hUf) ⟨rfl, trivial⟩ ?_
      exact ⟨rfl, _, _, hM, hMemo, hG0⟩
      · exact hJ.elim
  ·
   replace hc9 := df hc9
   refine l_q (q_skip rfl) (l_q (q_skip rfl) (l_q (q_skip rfl) (l_q (q_pick_f (v := .bool _) rfl rfl rfl) (l_nil (r_cond_f rfl (r_skip (r_seq (r_seq (r_region' (l_q (q_load_agg (n := 2) Tryz.isAgg178 Tryz.sizeOf178 rfl ((hb2.cells' (cs' := [_, _]) 0 2 rfl)) rfl rfl) (l_o (o_call Tryz.call155 rfl (next_ret _ _ _) rfl ?_))))))))))))
   rintro _ w46 ⟨bx46, rfl, hbx46, hx46, hE46⟩
   have hbs_bx46 : w.heap.size ≤ bx46 := Nat.le_trans hsz hbx46
   replace hM := hM.keep (hE46.block m hM.lt (by simp))
   replace hG0 := grown_trans hG0 (gm_ext hE46)
   replace hb1 := hb1.ext hE46
   replace hb2 := hb2.ext hE46
   replace hb4 := hb4.ext hE46
   replace hsz := Nat.le_trans hsz hE46.size
   refine l_nil (r_forget [(2, .pointer _), (3, .pointer _), (5, .pointer _), (26, .func _ _ _)] ⟨rfl, rfl, rfl, rfl, trivial⟩ (fun e47 => (r_block (r_rangeFunc' (fst := []) (cap := [_]) rfl rfl Tryz.call167 ?_))))
   intro l db wl Lp hLp hLk hEl hll hldb hlne hdbN hlN hdb hlp
   have hlt_b1 := hb1.lt
   have hlt_b2 := hb2.lt
   have hlt_b4 := hb4.lt
   have hlt_bx46 := hx46.lt
   have hltm := hM.lt
   have hszl := hEl.size
   replace hM := hM.keep (hEl.block m hM.lt (by simp))
   replace hG0 := grown_trans hG0 (gm_ext hEl)
   replace hb1 := hb1.ext hEl
   replace hb2 := hb2.ext hEl
   replace hb4 := hb4.ext hEl
   replace hx46 := hx46.ext hEl
   replace hsz := Nat.le_trans hsz hEl.size
   have hbs_l : w.heap.size ≤ l := by omega
   have hbs_db : w.heap.size ≤ db := by omega
   have hLJ : ∀ w1 w2, Below wl.heap.size w1 w2 → Lp w1 .ready none → Lp w2 .ready none := fun w1 w2 hB h => hLk _ _ _ _ h (hB.block l hlN)
   have hst0 : (1048576 : Int) = feA 1048576 0 s r := by show _ = start0 _ _ _; unfold start0; first | rw [if_pos ⟨‹s = []›, ‹r = []›⟩] | rw [if_neg (fun h => absurd h.1 ‹¬ s = []›)] | rw [if_neg (fun h => absurd h.2 ‹¬ r = []›)]
   rw [hst0] at hb4
   have hJ0 : FJ w m b1 b2 b4 bx46 db s r Lp 0 wl := ⟨⟨_, _, hM, hMemo⟩, hb1, hb2, hb4, hx46, hlp, hdb, hG0⟩
   refine (next1_ret l bx46 s r (FJ w m b1 b2 b4 bx46 db s r Lp) (fun _ => False) wl hs hr hr33 (by omega) hJ0 (fun k w1 hJ => hJ.cx) (fun k w1 w2 hJ hB => hJ.below hB (by omega) (by omega) (by omega) (by omega) (by omega) (by omega) (by omega) hLJ) (fun k w1 hk hJ hno => hJ.skip hno) ?_).mono ?_
   · intro k w1 hk hJ hN hstep
     have hfe := fe_eq_step (F := 1048576) hstep
     refine yieldAt_of ((hLp _ _ _).1 hJ.lp) rfl (by rfl) (by kernel_rfl) ?_
     obtain ⟨⟨es1, clock1, hM, hMemo⟩, hc2, hc3, hc5, hcx, hlp, hdb, hG0⟩ := hJ
     have hF := Fr.refl wl.heap.size w1
     have hsz : w.heap.size ≤ w1.heap.size := by omega
     refine r_forget [(2, ptr b1 0), (3, ptr b2 0), (5, ptr b4 0), (27, .agg ⟨[vint (k : Int), vint (cost (k : Int)), .func (.func (174 + k)) ⟨[]⟩ ⟨[]⟩]⟩), (28, .agg ⟨[vstr (s.drop (ofK (k : Int) s).1.length), vstr (r.drop (ofK (k : Int) s).2.length)]⟩)] ⟨rfl, rfl, rfl, rfl, rfl, trivial⟩ (fun e48 => (r_seq (r_region' (l_o (o_alloc Tryz.zeroValue214 rfl rfl ?_)))))
     intro b49 w49 hzl49 hzr49 _ hb49 hE49
     have hne_b1_b49 : b1 ≠ b49 := by have := hc2.lt; omega
     have hne_b2_b49 : b2 ≠ b49 := by have := hc3.lt; omega
     have hne_b4_b49 : b4 ≠ b49 := by have := hc5.lt; omega
     have hne_bx46_b49 : bx46 ≠ b49 := by have := hcx.lt; omega
     have hbs_b49 : w.heap.size ≤ b49 := Nat.le_trans hsz hzl49
     replace hc2 := hc2.ext hE49
     replace hc3 := hc3.ext hE49
     replace hc5 := hc5.ext hE49
     replace hcx := hcx.ext hE49
     replace hM := hM.keep (hE49.block m hM.lt (by simp))
     replace hlp := hLk _ _ _ _ hlp (hE49.block l (((hLp _ _ _).1 hlp).lt) (by simp))
     replace hdb := (hE49.block db (heap_lt hdb) (by simp)).trans hdb
     replace hG0 := grown_trans hG0 (gm_ext hE49)
     replace hF := hF.trans (Fr.of_ext hE49)
     replace hsz := Nat.le_trans hsz hE49.size
     refine l_o (o_store (vs := [vint (k : Int), vint (cost (k : Int)), .func (.func (174 + k)) ⟨[]⟩ ⟨[]⟩]) (cs' := [vint (k : Int), vint (cost (k : Int)), .func (.func (174 + k)) ⟨[]⟩ ⟨[]⟩]) Tryz.sizeOf214 rfl rfl rfl rfl hb49 (Nat.le_of_ble_eq_true rfl) rfl rfl ?_)
     intro w50 hz50 hb49 hG50
     replace hsz : w.heap.size ≤ w50.heap.size := by rw [hz50]; exact hsz
     replace hc2 := hc2.upd hG50 (by omega)
     replace hc3 := hc3.upd hG50 (by omega)
     replace hc5 := hc5.upd hG50 (by omega)
     replace hcx := hcx.upd hG50 (by omega)
     replace hM := hM.keep (hG50.block m hM.lt (by simp; omega))
     replace hlp := hLk _ _ _ _ hlp (hG50.block l (((hLp _ _ _).1 hlp).lt) (by simp; omega))
     replace hdb := (hG50.block db (heap_lt hdb) (by simp; omega)).trans hdb
     replace hG0 := gm_upd hG0 hG50 (by omega)
     replace hF := Fr.step hF hG50 (by omega)
     refine l_nil (r_region' (l_o (o_alloc Tryz.zeroValue178 rfl rfl ?_)))
     intro b51 w51 hzl51 hzr51 _ hb51 hE51
     have hne_b1_b51 : b1 ≠ b51 := by have := hc2.lt; omega
     have hne_b2_b51 : b2 ≠ b51 := by have := hc3.lt; omega
     have hne_b4_b51 : b4 ≠ b51 := by have := hc5.lt; omega
     have hne_bx46_b51 : bx46 ≠ b51 := by have := hcx.lt; omega
     have hne_b49_b51 : b49 ≠ b51 := by have := hb49.lt; omega
     have hbs_b51 : w.heap.size ≤ b51 := Nat.le_trans hsz hzl51
     replace hc2 := hc2.ext hE51
     replace hc3 := hc3.ext hE51
     replace hc5 := hc5.ext hE51
     replace hcx := hcx.ext hE51
     replace hM := hM.keep (hE51.block m hM.lt (by simp))
     replace hlp := hLk _ _ _ _ hlp (hE51.block l (((hLp _ _ _).1 hlp).lt) (by simp))
     replace hdb := (hE51.block db (heap_lt hdb) (by simp)).trans hdb
     replace hG0 := grown_trans hG0 (gm_ext hE51)
     replace hF := hF.trans (Fr.of_ext hE51)
     replace hb49 := hb49.ext hE51
     replace hsz := Nat.le_trans hsz hE51.size
     refine l_o (o_store (vs := [vstr (s.drop (ofK (k : Int) s).1.length), vstr (r.drop (ofK (k : Int) s).2.length)]) (cs' := [vstr (s.drop (ofK (k : Int) s).1.length), vstr (r.drop (ofK (k : Int) s).2.length)]) Tryz.sizeOf178 rfl rfl rfl rfl hb51 (Nat.le_of_ble_eq_true rfl) rfl rfl ?_)
     intro w52 hz52 hb51 hG52
     replace hsz : w.heap.size ≤ w52.heap.size := by rw [hz52]; exact hsz
     replace hc2 := hc2.upd hG52 (by omega)
     replace hc3 := hc3.upd hG52 (by omega)
     replace hc5 := hc5.upd hG52 (by omega)
     replace hcx := hcx.upd hG52 (by omega)
     replace hM := hM.keep (hG52.block m hM.lt (by simp; omega))
     replace hlp := hLk _ _ _ _ hlp (hG52.block l (((hLp _ _ _).1 hlp).lt) (by simp; omega))
     replace hdb := (hG52.block db (heap_lt hdb) (by simp; omega)).trans hdb
     replace hG0 := gm_upd hG0 hG52 (by omega)
     replace hF := Fr.step hF hG52 (by omega)
     replace hb49 := hb49.upd hG52 (by omega)
     refine l_nil (r_begin rfl ((hLp _ _ _).1 hlp) ?_)
     intro wb53 hzb53 hgb53 hl53
     replace hsz : w.heap.size ≤ wb53.heap.size := by rw [hzb53]; exact hsz
     replace hc2 := hc2.upd hgb53 (by omega)
     replace hc3 := hc3.upd hgb53 (by omega)
     replace hc5 := hc5.upd hgb53 (by omega)
     replace hcx := hcx.upd hgb53 (by omega)
     replace hM := hM.keep (hgb53.block m hM.lt (by simp; omega))
     replace hdb := (hgb53.block db (heap_lt hdb) (by simp; omega)).trans hdb
     replace hG0 := gm_upd hG0 hgb53 (by omega)
     replace hF := Fr.step hF hgb53 (by omega)
     replace hb49 := hb49.upd hgb53 (by omega)
     replace hb51 := hb51.upd hgb53 (by omega)
     have hlp := (hLp _ _ _).2 hl53
     refine r_block (r_draw (gm_refl m) (gm_trans m) [0, 1, 2, 3, 4, 5, 6, 7, 8, 9] [5, 7, 8, 9, 1009] 2 (by kernel_rfl) (by kernel_rfl) ?_)
     intro w54 _ hE54
     replace hc2 := hc2.ext hE54
     replace hc3 := hc3.ext hE54
     replace hc5 := hc5.ext hE54
     replace hcx := hcx.ext hE54
     replace hM := hM.keep (hE54.block m hM.lt (by simp))
     replace hdb := (hE54.block db (heap_lt hdb) (by simp)).trans hdb
     replace hG0 := grown_trans hG0 (gm_ext hE54)
     replace hF := hF.trans (Fr.of_ext hE54)
     replace hb49 := hb49.ext hE54
     replace hb51 := hb51.ext hE54
     replace hlp := hLk _ _ _ _ hlp (hE54.block l (((hLp _ _ _).1 hlp).lt) (by simp))
     replace hsz := Nat.le_trans hsz hE54.size
     refine m_q rfl rfl (fun w' hC' => q_load Tryz.isAgg3 rfl (((hc5.step hC' (by simp; omega)).has (o := 0) rfl)) rfl) (m_q rfl rfl (fun w' hC' => q_fieldAddr (o' := 1) rfl fld214_1 rfl) (m_q rfl rfl (fun w' hC' => q_load Tryz.isAgg3 rfl (((hb49.step hC' (by simp; omega)).has (o := 1) rfl)) rfl) (m_q rfl rfl (fun w' hC' => q_load Tryz.isAgg175 rfl (((hc2.step hC' (by simp; omega)).has (o := 0) rfl)) rfl) (m_q rfl rfl (fun w' hC' => q_load_agg (n := 2) Tryz.isAgg178 Tryz.sizeOf178 rfl (((hb51.step hC' (by simp; omega)).cells' (cs' := [_, _]) 0 2 rfl)) rfl rfl) (m_o rfl rfl (o_call Tryz.call121 rfl (ih (s.drop (ofK (k : Int) s).1.length) (r.drop (ofK (k : Int) s).2.length) _ _ _ (ofK_dec hstep) (by rw [List.length_drop]; omega) (by rw [List.length_drop]; omega) (fun x hx => hr33 x (List.mem_of_mem_drop hx)) hM hMemo) rfl ?_))))))
     rintro _ w55 ⟨rfl, esc55, ckc55, hMc55, hMm55, hGc55⟩
     refine ⟨hGc55, ?_⟩
     replace hsz : w.heap.size ≤ w55.heap.size := Nat.le_trans hsz hGc55.size
     replace hc2 := hc2.upd hGc55 (by omega)
     replace hc3 := hc3.upd hGc55 (by omega)
     replace hc5 := hc5.upd hGc55 (by omega)
     replace hcx := hcx.upd hGc55 (by omega)
     replace hdb := (hGc55.block db (heap_lt hdb) (by simp; omega)).trans hdb
     replace hG0 := gm_upd hG0 hGc55 (by omega)
     replace hF := Fr.step hF hGc55 (by omega)
     replace hb49 := hb49.upd hGc55 (by omega)
     replace hb51 := hb51.upd hGc55 (by omega)
     replace hlp := hLk _ _ _ _ hlp (hGc55.block l (((hLp _ _ _).1 hlp).lt) (by simp; omega))
     have hM := hMc55
     have hMemo := hMm55
     refine m_q rfl rfl (fun w' hC' => q_add rfl rfl (by have := fe_bounds (F := 1048576) (by decide) (s.drop (ofK (k : Int) s).1.length) (r.drop (ofK (k : Int) s).2.length); have := cost_le (k : Int); omega) rfl) (m_o rfl rfl (o_buildSlice (el := 3) (cs := [vint (feA 1048576 k s r), vint ((cost (k : Int)) + (fe 1048576 (s.drop (ofK (k : Int) s).1.length) (r.drop (ofK (k : Int) s).2.length)))]) Tryz.underlying31 el3 (by decide) (by kernel_rfl) rfl (by decide) rfl ?_))
     intro b56 w56 hzl56 hzr56 _ hb56 hE56 ho56
     refine ⟨(gm_ext hE56), ?_⟩
     have hne_b1_b56 : b1 ≠ b56 := by have := hc2.lt; omega
     have hne_b2_b56 : b2 ≠ b56 := by have := hc3.lt; omega
     have hne_b4_b56 : b4 ≠ b56 := by have := hc5.lt; omega
     have hne_bx46_b56 : bx46 ≠ b56 := by have := hcx.lt; omega
     have hne_b49_b56 : b49 ≠ b56 := by have := hb49.lt; omega
     have hne_b51_b56 : b51 ≠ b56 := by have := hb51.lt; omega
     have hbs_b56 : w.heap.size ≤ b56 := Nat.le_trans hsz hzl56
     replace hc2 := hc2.ext hE56
     replace hc3 := hc3.ext hE56
     replace hc5 := hc5.ext hE56
     replace hcx := hcx.ext hE56
     replace hdb := (hE56.block db (heap_lt hdb) (by simp)).trans hdb
     replace hG0 := grown_trans hG0 (gm_ext hE56)
     replace hF := hF.trans (Fr.of_ext hE56)
     replace hlp := hLk _ _ _ _ hlp (hE56.block l (((hLp _ _ _).1 hlp).lt) (by simp))
     replace hM := hM.keep (hE56.block m hM.lt (by simp))
     replace hsz := Nat.le_trans hsz hE56.size
     refine m_o rfl rfl (o_call Tryz.call156 rfl (minimum_ret _ _ [feA 1048576 k s r, (cost (k : Int)) + (fe 1048576 (s.drop (ofK (k : Int) s).1.length) (r.drop (ofK (k : Int) s).2.length))] _ (Row.of_owns ho56) (by first | omega | simp) (by first | omega | simp)) rfl ?_)
     rintro _ w57 ⟨rfl, hE57⟩
     refine ⟨(gm_ext hE57), ?_⟩
     replace hc2 := hc2.ext hE57
     replace hc3 := hc3.ext hE57
     replace hc5 := hc5.ext hE57
     replace hcx := hcx.ext hE57
     replace hdb := (hE57.block db (heap_lt hdb) (by simp)).trans hdb
     replace hG0 := grown_trans hG0 (gm_ext hE57)
     replace hF := hF.trans (Fr.of_ext hE57)
     replace hlp := hLk _ _ _ _ hlp (hE57.block l (((hLp _ _ _).1 hlp).lt) (by simp))
     replace hM := hM.keep (hE57.block m hM.lt (by simp))
     replace hsz := Nat.le_trans hsz hE57.size
     refine m_last rfl rfl rfl (o_store (vs := [vint (minOf [feA 1048576 k s r, (cost (k : Int)) + (fe 1048576 (s.drop (ofK (k : Int) s).1.length) (r.drop (ofK (k : Int) s).2.length))])]) (cs' := [vint (minOf [feA 1048576 k s r, (cost (k : Int)) + (fe 1048576 (s.drop (ofK (k : Int) s).1.length) (r.drop (ofK (k : Int) s).2.length))])]) Tryz.sizeOf3 rfl rfl rfl rfl hc5 (Nat.le_of_ble_eq_true rfl) rfl rfl ?_)
     intro w58 hz58 hc5 hG58
     replace hsz : w.heap.size ≤ w58.heap.size := by rw [hz58]; exact hsz
     replace hc2 := hc2.upd hG58 (by omega)
     replace hc3 := hc3.upd hG58 (by omega)
     replace hcx := hcx.upd hG58 (by omega)
     replace hdb := (hG58.block db (heap_lt hdb) (by simp; omega)).trans hdb
     replace hG0 := gm_upd hG0 hG58 (by omega)
     replace hF := Fr.step hF hG58 (by omega)
     replace hlp := hLk _ _ _ _ hlp (hG58.block l (((hLp _ _ _).1 hlp).lt) (by simp; omega))
     replace hM := hM.keep (hG58.block m hM.lt (by simp; omega))
     refine m_nil (r_forget [] trivial (fun e59 => (r_inBlock ?_)))
     have hval : minOf [feA 1048576 k s r, (cost (k : Int)) + (fe 1048576 (s.drop (ofK (k : Int) s).1.length) (r.drop (ofK (k : Int) s).2.length))] = feA 1048576 (k + 1) s r := by rw [min_two]; exact hfe
     rw [hval] at hc5
     refine r_round_end rfl ((hLp _ _ _).1 hlp) ?_
     intro we60 hze60 hge60 hl60
     replace hc2 := hc2.upd hge60 (by omega)
     replace hc3 := hc3.upd hge60 (by omega)
     replace hc5 := hc5.upd hge60 (by omega)
     replace hcx := hcx.upd hge60 (by omega)
     replace hdb := (hge60.block db (heap_lt hdb) (by simp; omega)).trans hdb
     replace hG0 := gm_upd hG0 hge60 (by omega)
     replace hF := Fr.step hF hge60 (by omega)
     replace hM := hM.keep (hge60.block m hM.lt (by simp; omega))
     have hlp := (hLp _ _ _).2 hl60
     exact ⟨true, rfl, fun _ => ⟨⟨_, _, hM, hMemo⟩, hc2, hc3, hc5, hcx, hlp, hdb, hG0⟩, (fun h => by cases h), hF, hcx⟩
   · rintro _ w2 (hJ | hJ)
     obtain ⟨⟨es2, clock2, hM2, hMemo2⟩, hc2, hc3, hc5, hcx, hlp, hdb, hG0⟩ := hJ
     have hMemo := hMemo2
     have hM := hM2
     refine ⟨.ready, none, (by decide), hlp, rfl, ?_⟩
     intro w3 hz3 hg3
     have hsz : w.heap.size ≤ w3.heap.size := by have := hG0.size; omega
     replace hc2 := hc2.upd hg3 (by omega)
     replace hc3 := hc3.upd hg3 (by omega)
     replace hc5 := hc5.upd hg3 (by omega)
     replace hM := hM.keep (hg3.block m hM.lt (by simp; omega))
     replace hdb := (hg3.block db (heap_lt hdb) (by simp; omega)).trans hdb
     replace hG0 := gm_upd hG0 hg3 (by omega)
     have hfe6 := fe_six (F := 1048576) s r
     rw [hfe6] at hc5
     refine r_inBlock (r_seq (r_region' (l_q (q_load Tryz.isAgg175 rfl ((hc2.has (o := 0) rfl)) rfl) (l_q (q_load_agg (n := 2) Tryz.isAgg178 Tryz.sizeOf178 rfl ((hc3.cells' (cs' := [_, _]) 0 2 rfl)) rfl rfl) (l_q (q_load Tryz.isAgg3 rfl ((hc5.has (o := 0) rfl)) rfl) (l_o (o_mapUpdate Tryz.underlying175 Tryz.underlying178 rfl rfl rfl hM (fun em w => run_checkKey_pair (n := 9998) Tryz.underlying178 ⟨by decide, rfl, rfl⟩ ⟨by decide, rfl, rfl⟩ Tryz.underlying9 Tryz.isAgg9) (asks_memo hMemo _ _) (sameBits_pair _ _) rfl ?_)))))))
     intro es61 ck61 w61 hz61 hM61 hG61 hin61
     replace hsz : w.heap.size ≤ w61.heap.size := by rw [hz61]; exact hsz
     replace hc2 := hc2.upd hG61 (by omega)
     replace hc3 := hc3.upd hG61 (by omega)
     replace hc5 := hc5.upd hG61 (by omega)
     replace hdb := (hG61.block db (heap_lt hdb) (by simp; omega)).trans hdb
     replace hG0 := gm_upd hG0 hG61 (by omega)
     have hM := hM61
     replace hMemo := memo_put hMemo hin61 (by rfl)
     refine l_nil (r_seq (r_region' (l_q (q_load Tryz.isAgg3 rfl ((hc5.has (o := 0) rfl)) rfl) (l_q (qai rfl rfl) (l_nil ?_)))))
     obtain ⟨wf62, hUf, hzf62, hGf62⟩ := unw_one hdb
     replace hsz : w.heap.size ≤ wf62.heap.size := by rw [hzf62]; exact hsz
     replace hc2 := hc2.upd hGf62 (by omega)
     replace hc3 := hc3.upd hGf62 (by omega)
     replace hc5 := hc5.upd hGf62 (by omega)
     replace hG0 := gm_upd hG0 hGf62 (by omega)
     replace hM := hM.keep (hGf62.block m hM.lt (by simp; omega))
     refine r_ret_ (vs := [.int _ _]) rfl Tryz.func121 rfl (hUf) ⟨rfl, trivial⟩ ?_
     exact ⟨rfl, _, _, hM, hMemo, hG0⟩
     · exact hJ.elim
end Go.Proofs.YtbikicakdkbcgacGreat
