/- Contracts. -/
import Derived.Test.YtkcbgpilfegofaaF10
set_option linter.unusedVariables false
set_option linter.unusedSimpArgs false
namespace Go.Proofs.Ytkcbgpilfegofaa
open Go Go.RowKit Go.Gv Go.Fl

def stepMin (rec : Sg → Sg → Int) (s r : Sg) (m k : Int) : Int := if (stepR k s r).2.2 = true then min m (cost k + rec (stepR k s r).1 (stepR k s r).2.1) else m
def kinds6 : List Int := [0, 1, 2, 3, 4, 5]
def start0 (F : Int) (s r : Sg) : Int := if s = [] ∧ r = [] then 0 else F
def feN (F : Int) : Nat → Sg → Sg → Int
  | 0, s, r => start0 F s r
  | n + 1, s, r => kinds6.foldl (stepMin (feN F n) s r) (start0 F s r)
def fe (F : Int) (s r : Sg) : Int := feN F (s.length + r.length) s r
def feA (F : Int) (k : Nat) (s r : Sg) : Int := (kinds6.take k).foldl (stepMin (fe F) s r) (start0 F s r)
theorem tw_pos {k : Int} {s : Sg} {t : Nat} {wr : Sg} (h : stepTW k s = some (t, wr)) : (1 ≤ t ∧ 1 ≤ s.length) ∨ 1 ≤ wr.length := by
  have hn : s ≠ [] → 1 ≤ s.length := List.length_pos_iff.2
  unfold stepTW at h
  repeat' split at h
  all_goals first
    | (cases h; done)
    | (injection h with h; injection h with h1 h2; subst h1; subst h2; first
        | (right; simp; done)
        | (left; refine ⟨by omega, ?_⟩; first | (apply hn; assumption) | (apply hn; intro he; simp_all; done) | omega))
theorem stepR_dec {k : Int} {s r : Sg} (h : (stepR k s r).2.2 = true) : (stepR k s r).1.length + (stepR k s r).2.1.length < s.length + r.length := by
  cases ht : stepTW k s with
  | none => rw [stepR_none ht] at h; cases h
  | some p =>
    obtain ⟨t, wr⟩ := p
    cases hp : hasPfx r wr with
    | false => rw [stepR_no ht hp] at h; cases h
    | true =>
      rw [stepR_yes ht hp]
      have h1 := tw_pos ht
      have h2 := pfx_len hp
      simp only [List.length_drop]
      omega
theorem stepMin_congr {f g : Sg → Sg → Int} {s r : Sg} (h : ∀ k, (stepR k s r).2.2 = true → f (stepR k s r).1 (stepR k s r).2.1 = g (stepR k s r).1 (stepR k s r).2.1) (m k : Int) : stepMin f s r m k = stepMin g s r m k := by
  unfold stepMin
  split
  · rename_i hk; rw [h k hk]
  · rfl
theorem foldl_stepMin_congr {f g : Sg → Sg → Int} {s r : Sg} (h : ∀ k, (stepR k s r).2.2 = true → f (stepR k s r).1 (stepR k s r).2.1 = g (stepR k s r).1 (stepR k s r).2.1) : ∀ (l : List Int) (m : Int), l.foldl (stepMin f s r) m = l.foldl (stepMin g s r) m
  | [], _ => rfl
  | k :: l, m => by rw [List.foldl_cons, List.foldl_cons, stepMin_congr h, foldl_stepMin_congr h l]
theorem foldl_none {f : Sg → Sg → Int} {s r : Sg} (h : ∀ k, (stepR k s r).2.2 = false) : ∀ (l : List Int) (m : Int), l.foldl (stepMin f s r) m = m
  | [], _ => rfl
  | k :: l, m => by
    have : stepMin f s r m k = m := by unfold stepMin; rw [h k]; simp
    rw [List.foldl_cons, this, foldl_none h l]
theorem feN_stable (F : Int) : ∀ (L n m : Nat) (s r : Sg), s.length + r.length ≤ L → s.length + r.length ≤ n → s.length + r.length ≤ m → feN F n s r = feN F m s r := by
  intro L
  induction L with
  | zero =>
    intro n m s r hL _ _
    have hno : ∀ k, (stepR k s r).2.2 = false := fun k => by
      cases h : (stepR k s r).2.2 with
      | false => rfl
      | true => have := stepR_dec h; omega
    have h1 : ∀ n, feN F n s r = start0 F s r := fun n => by
      cases n with
      | zero => rfl
      | succ n => exact foldl_none hno _ _
    rw [h1, h1]
  | succ L ih =>
    intro n m s r hL hn hm
    by_cases h0 : s.length + r.length ≤ L
    · exact ih n m s r h0 hn hm
    · cases n with
      | zero => omega
      | succ n =>
        cases m with
        | zero => omega
        | succ m =>
          show List.foldl _ _ _ = List.foldl _ _ _
          exact foldl_stepMin_congr (fun k hk => ih n m _ _ (by have := stepR_dec hk; omega) (by have := stepR_dec hk; omega) (by have := stepR_dec hk; omega)) _ _
theorem fe_six {F : Int} (s r : Sg) : feA F 6 s r = fe F s r := by
  have h1 : fe F s r = feN F (s.length + r.length + 1) s r := feN_stable F _ _ _ s r (Nat.le_refl _) (Nat.le_refl _) (by omega)
  rw [h1]
  refine foldl_stepMin_congr (s := s) (r := r) (f := fe F) (g := feN F (s.length + r.length)) (fun k hk => ?_) kinds6 (start0 F s r)
  have h := stepR_dec hk
  exact feN_stable F (s.length + r.length) _ _ _ _ (by omega) (Nat.le_refl _) (by omega)
theorem feA_succ {F : Int} {k : Nat} {s r : Sg} (hk : k < 6) : feA F (k + 1) s r = stepMin (fe F) s r (feA F k s r) (k : Int) := by
  unfold feA
  have : kinds6.take (k + 1) = kinds6.take k ++ [(k : Int)] := by
    rcases (show k = 0 ∨ k = 1 ∨ k = 2 ∨ k = 3 ∨ k = 4 ∨ k = 5 by omega) with rfl | rfl | rfl | rfl | rfl | rfl <;> rfl
  rw [this, List.foldl_append]; rfl
theorem fe_eq_step {F : Int} {k : Nat} {s r a b : Sg} (h : stepR (k : Int) s r = (a, b, true)) (hk : k < 6 := by assumption) : min (feA F k s r) (cost (k : Int) + fe F a b) = feA F (k + 1) s r := by
  rw [feA_succ hk, stepMin, h]; simp
theorem ofK_dec {k : Int} {s r a b : Sg} (h : stepR k s r = (a, b, true)) : a.length + b.length < s.length + r.length := by
  have := stepR_dec (k := k) (s := s) (r := r) (by rw [h])
  rwa [h] at this
theorem fold_bounds {F : Int} {f : Sg → Sg → Int} {s r : Sg} (h : ∀ k, (stepR k s r).2.2 = true → 0 ≤ f (stepR k s r).1 (stepR k s r).2.1) : ∀ (l : List Int) (m : Int), 0 ≤ m → m ≤ F → 0 ≤ l.foldl (stepMin f s r) m ∧ l.foldl (stepMin f s r) m ≤ F
  | [], m, h0, h1 => ⟨h0, h1⟩
  | k :: l, m, h0, h1 => by
    rw [List.foldl_cons]
    have hm : 0 ≤ stepMin f s r m k ∧ stepMin f s r m k ≤ F := by
      unfold stepMin
      split
      · rename_i hk; have := h k hk; have := cost_le k; omega
      · exact ⟨h0, h1⟩
    exact fold_bounds h l _ hm.1 hm.2
theorem start_bounds {F : Int} (hF : 0 ≤ F) (s r : Sg) : 0 ≤ start0 F s r ∧ start0 F s r ≤ F := by unfold start0; split <;> omega
theorem feN_bounds {F : Int} (hF : 0 ≤ F) : ∀ (n : Nat) (s r : Sg), 0 ≤ feN F n s r ∧ feN F n s r ≤ F
  | 0, s, r => start_bounds hF s r
  | n + 1, s, r => fold_bounds (fun _ _ => (feN_bounds hF n _ _).1) _ _ (start_bounds hF s r).1 (start_bounds hF s r).2
theorem fe_bounds {F : Int} (hF : 0 ≤ F) (s r : Sg) : 0 ≤ fe F s r ∧ fe F s r ≤ F := feN_bounds hF _ s r
theorem feA_bounds {F : Int} (hF : 0 ≤ F) (k : Nat) (s r : Sg) : 0 ≤ feA F k s r ∧ feA F k s r ≤ F := fold_bounds (fun _ _ => (fe_bounds hF _ _).1) _ _ (start_bounds hF s r).1 (start_bounds hF s r).2
def Memo (es : List MapEntry) : Prop := ∀ en ∈ es, ∃ a b : Sg, en.key = .agg ⟨[vstr a, vstr b]⟩ ∧ en.val = vint (fe 1048576 a b)
theorem memo_nil : Memo [] := fun _ h => by simp at h
theorem key_inj {a b c d : Sg} (h : Value.agg ⟨[vstr a, vstr b]⟩ = .agg ⟨[vstr c, vstr d]⟩) : a = c ∧ b = d := by
  injection h with h; injection h with h; injection h with h1 h2; injection h2 with h2 _
  injection h1 with h1; injection h2 with h2
  injection h1 with h1; injection h2 with h2
  injection h1 with h1; injection h2 with h2
  exact ⟨h1, h2⟩
theorem asks_memo {es : List MapEntry} (h : Memo es) (a b : Sg) : Asks Try.prog 93 (.agg ⟨[vstr a, vstr b]⟩) es := fun en hen => by
  obtain ⟨c, d, h1, _⟩ := h en hen
  refine ⟨decide (a = c) && decide (b = d), fun w => by rw [h1]; exact run_equal_pair Try.underlying93 ⟨by decide, rfl, rfl⟩ ⟨by decide, rfl, rfl⟩ Try.underlying9 Try.isAgg9 (by kernel_rfl), ?_⟩
  rw [h1, Bool.and_eq_true, decide_eq_true_eq, decide_eq_true_eq]
  exact ⟨fun h => by rw [h.1, h.2], key_inj⟩
theorem memo_get {es : List MapEntry} {a b : Sg} {v : Value} {ok : Bool} (h : Memo es) (h1 : ok = true → ∃ en ∈ es, en.key = .agg ⟨[vstr a, vstr b]⟩ ∧ en.val = v) (h2 : ok = false → v = vint 0 ∧ ∀ en ∈ es, en.key ≠ .agg ⟨[vstr a, vstr b]⟩) :
    ∃ x : Int, v = vint x ∧ (ok = true → x = fe 1048576 a b) := by
  cases ok with
  | true =>
    obtain ⟨en, hen, hk, rfl⟩ := h1 rfl
    obtain ⟨c, d, h3, h4⟩ := h en hen
    obtain ⟨rfl, rfl⟩ := key_inj (h3.symm.trans hk)
    exact ⟨_, h4, fun _ => rfl⟩
  | false => exact ⟨0, (h2 rfl).1, fun h => by cases h⟩
theorem memo_put {es es' : List MapEntry} {a b : Sg} {v : Value} (h : Memo es) (hin : ∀ en ∈ es', (en ∈ es) ∨ (en.key = .agg ⟨[vstr a, vstr b]⟩ ∧ en.val = v)) (hv : v = vint (fe 1048576 a b)) : Memo es' := fun en hen => by
  rcases hin en hen with h1 | ⟨h1, h2⟩
  · exact h en h1
  · exact ⟨a, b, h1, h2.trans hv⟩
def FewP (m : Nat) (s r : Sg) (w : World) (v : Value) (w' : World) : Prop := v = vint (fe 1048576 s r) ∧ ∃ es clock, MapAt w' m es clock ∧ Memo es ∧ w.grownBy w' (some m)
structure FJ (w0 : World) (m b2 b3 b5 bx db : Nat) (s r : Sg) (Lp : World → LoopState → Option Code → Prop) (k : Nat) (w : World) : Prop where
  mem : ∃ es clock, MapAt w m es clock ∧ Memo es
  c2 : Blk w b2 [.map (some m)]
  c3 : Blk w b3 [vstr s, vstr r]
  c5 : Blk w b5 [vint (feA 1048576 k s r)]
  cx : Blk w bx [vstr s, vstr r]
  lp : Lp w .ready none
  dfr : w.heap[db]? = some (.deferred (some []))
  gr : w0.grownBy w (some m)
theorem FJ.below {w0 : World} {m b2 b3 b5 bx db N : Nat} {s r : Sg} {Lp : World → LoopState → Option Code → Prop} {k : Nat} {w w' : World} (h : FJ w0 m b2 b3 b5 bx db s r Lp k w) (hB : Below N w w') (hm : m < N) (h2 : b2 < N) (h3 : b3 < N) (h5 : b5 < N) (hx : bx < N) (hd : db < N) (h0 : w0.heap.size ≤ N)
    (hL : ∀ w1 w2, Below N w1 w2 → Lp w1 .ready none → Lp w2 .ready none) : FJ w0 m b2 b3 b5 bx db s r Lp k w' := by
  obtain ⟨⟨es, clock, hM, hMe⟩, c2, c3, c5, cx, lp, dfr, gr⟩ := h
  exact ⟨⟨es, clock, hM.keep (hB.block m hm), hMe⟩, c2.keep (hB.block _ h2), c3.keep (hB.block _ h3), c5.keep (hB.block _ h5), cx.keep (hB.block _ hx), hL _ _ hB lp, (hB.block _ hd).trans dfr, gm_below gr hB h0⟩
theorem FJ.skip {w0 : World} {m b2 b3 b5 bx db : Nat} {s r : Sg} {Lp : World → LoopState → Option Code → Prop} {k : Nat} {w : World} (h : FJ w0 m b2 b3 b5 bx db s r Lp k w) (hno : (stepR (k : Int) s r).2.2 = false) (hk : k < 6 := by assumption) : FJ w0 m b2 b3 b5 bx db s r Lp (k + 1) w := by
  have : feA 1048576 (k + 1) s r = feA 1048576 k s r := by rw [feA_succ hk, stepMin, hno]; simp
  obtain ⟨h1, c2, c3, c5, cx, lp, dfr, gr⟩ := h
  exact ⟨h1, c2, c3, by rw [this]; exact c5, cx, lp, dfr, gr⟩

theorem fld99_1 (w : World) (b o : Nat) : (Instr.fieldAt 99 (ptr b o) 1).run Try.prog w = .ok (ptr b (o + 1)) w := by
  simp [Instr.fieldAt, run_underlying Try.underlying99, fieldPlace, Instr.sureAddr, Try.sizeOf3, Addr.add_lit]
theorem fewest_step (m clock : Nat) (es : List MapEntry) (s r : Sg) (w : World) (hs : s.length ≤ 2097152) (hr : r.length ≤ 2097152) (hr33 : ∀ x ∈ r, x ≠ 33) (hM : MapAt w m es clock) (hMemo : Memo es) (ih : ∀ (s2 r2 : Sg) (w1 : World) (es1 : List MapEntry) (clock1 : Nat), s2.length + r2.length < s.length + r.length → s2.length ≤ 2097152 → r2.length ≤ 2097152 → (∀ x ∈ r2, x ≠ 33) → MapAt w1 m es1 clock1 → Memo es1 → Ret Try.prog 59 [.map (some m), .agg ⟨[vstr s2, vstr r2]⟩] w1 (FewP m s2 r2 w1)) : Ret Try.prog 59 [.map (some m), .agg ⟨[vstr s, vstr r]⟩] w (fun v w' => FewP m s r w v w') := by
  have hG0 := gm_refl m w
  have hmN := hM.lt
  have hsz : w.heap.size ≤ w.heap.size := Nat.le_refl _
  refine ret_of_runs (args := [_, _]) Try.func59 rfl (Nat.le_of_ble_eq_true rfl) (by kernel_rfl) ?_
  refine r_seq ?_
  refine r_region' ?_
  refine l_o (o_box rfl rfl rfl ?_)
  intro b1 w1 hzl1 hzr1 _ hb1 hE1
  have hbs_b1 : w.heap.size ≤ b1 := Nat.le_trans hsz hzl1
  replace hM := hM.keep (hE1.block m hM.lt (by simp))
  replace hG0 := grown_trans hG0 (gm_ext hE1)
  replace hsz := Nat.le_trans hsz hE1.size
  refine l_o (o_box rfl rfl rfl ?_)
  intro b2 w2 hzl2 hzr2 _ hb2 hE2
  have hne_b1_b2 : b1 ≠ b2 := by have := hb1.lt; omega
  have hbs_b2 : w.heap.size ≤ b2 := Nat.le_trans hsz hzl2
  replace hM := hM.keep (hE2.block m hM.lt (by simp))
  replace hG0 := grown_trans hG0 (gm_ext hE2)
  replace hb1 := hb1.ext hE2
  replace hsz := Nat.le_trans hsz hE2.size
  refine l_q (q_assign (v := .int _ _) rfl rfl) ?_
  refine l_nil ?_
  refine r_forget [(2, .pointer _), (3, .pointer _)] ⟨rfl, rfl, trivial⟩ (fun e3 => ?_)
  refine r_seq ?_
  refine r_region' ?_
  refine l_q (q_load Try.isAgg90 rfl ((hb1.has (o := 0) rfl)) rfl) ?_
  refine l_q (q_load_agg (n := 2) Try.isAgg93 Try.sizeOf93 rfl ((hb2.cells' (cs' := [_, _]) 0 2 rfl)) rfl rfl) ?_
  refine l_lookup Try.underlying90 Try.underlying93 Try.zeroValue3 rfl rfl hM (fun em w => run_checkKey_pair (n := 9998) Try.underlying93 ⟨by decide, rfl, rfl⟩ ⟨by decide, rfl, rfl⟩ Try.underlying9 Try.isAgg9) (asks_memo hMemo _ _) rfl ?_
  intro v4 ok4 hA4 hB4
  obtain ⟨x4, rfl, hxl⟩ := memo_get hMemo hA4 hB4
  refine l_q (q_move (v := .tuple _) rfl rfl) ?_
  refine l_q (q_extract (vs := [_, _]) (v := .int _ _) rfl rfl rfl) ?_
  refine l_q (q_extract (vs := [_, _]) (v := .bool _) rfl rfl rfl) ?_
  refine l_o (o_alloc Try.zeroValue3 rfl rfl ?_)
  intro b5 w5 hzl5 hzr5 _ hb5 hE5
  have hne_b1_b5 : b1 ≠ b5 := by have := hb1.lt; omega
  have hne_b2_b5 : b2 ≠ b5 := by have := hb2.lt; omega
  have hbs_b5 : w.heap.size ≤ b5 := Nat.le_trans hsz hzl5
  replace hM := hM.keep (hE5.block m hM.lt (by simp))
  replace hG0 := grown_trans hG0 (gm_ext hE5)
  replace hb1 := hb1.ext hE5
  replace hb2 := hb2.ext hE5
  replace hsz := Nat.le_trans hsz hE5.size
  refine l_o (o_store (vs := [vint x4]) (cs' := [vint x4]) Try.sizeOf3 rfl rfl rfl rfl hb5 (Nat.le_of_ble_eq_true rfl) rfl rfl ?_)
  intro w6 hz6 hb5 hG6
  replace hsz : w.heap.size ≤ w6.heap.size := by rw [hz6]; exact hsz
  replace hM := hM.keep (hG6.block m hM.lt (by simp; omega))
  replace hG0 := gm_upd hG0 hG6 (by omega)
  replace hb1 := hb1.upd hG6 (by omega)
  replace hb2 := hb2.upd hG6 (by omega)
  refine l_q (q_assign (v := .bool _) rfl rfl) ?_
  refine l_nil ?_
  refine r_forget [(2, .pointer _), (3, .pointer _), (5, .pointer _), (6, .bool _)] ⟨rfl, rfl, rfl, rfl, trivial⟩ (fun e7 => ?_)
  refine r_seq ?_
  refine r_seq ?_
  refine r_region' ?_
  refine l_q (q_move (v := .bool _) rfl rfl) ?_
  refine l_nil ?_
  refine r_forget [(2, .pointer _), (3, .pointer _), (5, .pointer _), (15, .bool _)] ⟨rfl, rfl, rfl, rfl, trivial⟩ (fun e8 => ?_)
  refine r_cond rfl (fun hc9 => ?_) (fun hc9 => ?_)
  · skip
    try simp only [decide_eq_true_eq, decide_eq_false_iff_not, Bool.not_eq_true', Bool.not_eq_false', Bool.not_not, Bool.not_true, Bool.not_false, Bool.not_eq_true, Bool.not_eq_false, Int.not_lt, Int.not_le, Bool.and_eq_true, Bool.or_eq_true, Bool.and_eq_false_iff, Bool.or_eq_false_iff] at hc9
    have hx := hxl hc9
    refine r_seq ?_
    refine r_region' ?_
    refine l_q (q_load Try.isAgg3 rfl ((hb5.has (o := 0) rfl)) rfl) ?_
    refine l_q (q_assign (v := .int _ _) rfl rfl) ?_
    refine l_nil ?_
    refine r_forget [(4, .int _ _)] ⟨rfl, trivial⟩ (fun e10 => ?_)
    refine r_ret_ (vs := [.int _ _]) rfl Try.func59 rfl (.nil _) ⟨rfl, trivial⟩ ?_
    exact ⟨vint_eq hx, _, _, hM, hMemo, hG0⟩
  · skip
    try simp only [decide_eq_true_eq, decide_eq_false_iff_not, Bool.not_eq_true', Bool.not_eq_false', Bool.not_not, Bool.not_true, Bool.not_false, Bool.not_eq_true, Bool.not_eq_false, Int.not_lt, Int.not_le, Bool.and_eq_true, Bool.or_eq_true, Bool.and_eq_false_iff, Bool.or_eq_false_iff] at hc9
    refine r_skip ?_
    refine r_seq ?_
    refine r_region' ?_
    refine l_o (o_store (vs := [vint 1048576]) (cs' := [vint 1048576]) Try.sizeOf3 rfl rfl rfl rfl hb5 (Nat.le_of_ble_eq_true rfl) rfl rfl ?_)
    intro w11 hz11 hb5 hG11
    replace hsz : w.heap.size ≤ w11.heap.size := by rw [hz11]; exact hsz
    replace hM := hM.keep (hG11.block m hM.lt (by simp; omega))
    replace hG0 := gm_upd hG0 hG11 (by omega)
    replace hb1 := hb1.upd hG11 (by omega)
    replace hb2 := hb2.upd hG11 (by omega)
    refine l_nil ?_
    refine r_forget [(2, .pointer _), (3, .pointer _), (5, .pointer _)] ⟨rfl, rfl, rfl, trivial⟩ (fun e12 => ?_)
    refine r_seq ?_
    refine r_seq ?_
    refine r_region' ?_
    refine l_q (q_fieldAddr (o' := 0) rfl fld93_0 rfl) ?_
    refine l_q (q_load Try.isAgg9 rfl ((hb2.has (o := 0) rfl)) rfl) ?_
    refine l_q (q_eql_str rfl rfl rfl) ?_
    refine l_q (q_move (v := .bool _) rfl rfl) ?_
    refine l_part 20 rfl (fun hc13 => ?_) (fun hc13 => ?_)
    · skip
      try simp only [decide_eq_true_eq, decide_eq_false_iff_not, Bool.not_eq_true', Bool.not_eq_false', Bool.not_not, Bool.not_true, Bool.not_false, Bool.not_eq_true, Bool.not_eq_false, Int.not_lt, Int.not_le, Bool.and_eq_true, Bool.or_eq_true, Bool.and_eq_false_iff, Bool.or_eq_false_iff] at hc13
      refine l_q (q_fieldAddr (o' := 1) rfl fld93_1 rfl) ?_
      refine l_q (q_load Try.isAgg9 rfl ((hb2.has (o := 1) rfl)) rfl) ?_
      refine l_q (q_eql_str rfl rfl rfl) ?_
      refine l_q (q_pick_t (v := .bool _) rfl rfl rfl) ?_
      refine l_nil ?_
      refine r_forget [(2, .pointer _), (3, .pointer _), (5, .pointer _), (24, .bool _)] ⟨rfl, rfl, rfl, rfl, trivial⟩ (fun e14 => ?_)
      refine r_cond rfl (fun hc15 => ?_) (fun hc15 => ?_)
      · skip
        try simp only [decide_eq_true_eq, decide_eq_false_iff_not, Bool.not_eq_true', Bool.not_eq_false', Bool.not_not, Bool.not_true, Bool.not_false, Bool.not_eq_true, Bool.not_eq_false, Int.not_lt, Int.not_le, Bool.and_eq_true, Bool.or_eq_true, Bool.and_eq_false_iff, Bool.or_eq_false_iff] at hc15
        refine r_region' ?_
        refine l_o (o_store (vs := [vint 0]) (cs' := [vint 0]) Try.sizeOf3 rfl rfl rfl rfl hb5 (Nat.le_of_ble_eq_true rfl) rfl rfl ?_)
        intro w16 hz16 hb5 hG16
        replace hsz : w.heap.size ≤ w16.heap.size := by rw [hz16]; exact hsz
        replace hM := hM.keep (hG16.block m hM.lt (by simp; omega))
        replace hG0 := gm_upd hG0 hG16 (by omega)
        replace hb1 := hb1.upd hG16 (by omega)
        replace hb2 := hb2.upd hG16 (by omega)
        refine l_nil ?_
        refine r_forget [(2, .pointer _), (3, .pointer _), (5, .pointer _)] ⟨rfl, rfl, rfl, trivial⟩ (fun e17 => ?_)
        refine r_seq ?_
        refine r_seq ?_
        refine r_region' ?_
        refine l_q (q_load_agg (n := 2) Try.isAgg93 Try.sizeOf93 rfl ((hb2.cells' (cs' := [_, _]) 0 2 rfl)) rfl rfl) ?_
        refine l_o (o_call Try.call60 rfl (next_ret _ _ _) rfl ?_)
        rintro _ w18 ⟨bx18, rfl, hbx18, hx18, hE18⟩
        have hbs_bx18 : w.heap.size ≤ bx18 := Nat.le_trans hsz hbx18
        replace hM := hM.keep (hE18.block m hM.lt (by simp))
        replace hG0 := grown_trans hG0 (gm_ext hE18)
        replace hb1 := hb1.ext hE18
        replace hb2 := hb2.ext hE18
        replace hb5 := hb5.ext hE18
        replace hsz := Nat.le_trans hsz hE18.size
        refine l_nil ?_
        refine r_forget [(2, .pointer _), (3, .pointer _), (5, .pointer _), (26, .func _ _ _)] ⟨rfl, rfl, rfl, rfl, trivial⟩ (fun e19 => ?_)
        refine r_block ?_
        refine r_rangeFunc' (fst := []) (cap := [_]) rfl rfl Try.call86 ?_
        intro l db wl Lp hLp hLk hEl hll hldb hlne hdbN hlN hdb hlp
        have hlt_b1 := hb1.lt
        have hlt_b2 := hb2.lt
        have hlt_b5 := hb5.lt
        have hlt_bx18 := hx18.lt
        have hltm := hM.lt
        have hszl := hEl.size
        replace hM := hM.keep (hEl.block m hM.lt (by simp))
        replace hG0 := grown_trans hG0 (gm_ext hEl)
        replace hb1 := hb1.ext hEl
        replace hb2 := hb2.ext hEl
        replace hb5 := hb5.ext hEl
        replace hx18 := hx18.ext hEl
        replace hsz := Nat.le_trans hsz hEl.size
        have hbs_l : w.heap.size ≤ l := by omega
        have hbs_db : w.heap.size ≤ db := by omega
        have hLJ : ∀ w1 w2, Below wl.heap.size w1 w2 → Lp w1 .ready none → Lp w2 .ready none := fun w1 w2 hB h => hLk _ _ _ _ h (hB.block l hlN)
        have hst0 : (0 : Int) = feA 1048576 0 s r := by show _ = start0 _ _ _; unfold start0; first | rw [if_pos ⟨‹s = []›, ‹r = []›⟩] | rw [if_neg (fun h => absurd h.1 ‹¬ s = []›)] | rw [if_neg (fun h => absurd h.2 ‹¬ r = []›)]
        rw [hst0] at hb5
        have hJ0 : FJ w m b1 b2 b5 bx18 db s r Lp 0 wl := ⟨⟨_, _, hM, hMemo⟩, hb1, hb2, hb5, hx18, hlp, hdb, hG0⟩
        refine (next1_ret l bx18 s r (FJ w m b1 b2 b5 bx18 db s r Lp) (fun _ => False) wl hs hr hr33 (by omega) hJ0 (fun k w1 hJ => hJ.cx) (fun k w1 w2 hJ hB => hJ.below hB (by omega) (by omega) (by omega) (by omega) (by omega) (by omega) (by omega) hLJ) (fun k w1 hk hJ hno => hJ.skip hno) ?_).mono ?_
        · intro k w1 hk hJ hN hstep
          have hfe := fe_eq_step (F := 1048576) hstep
          refine yieldAt_of ((hLp _ _ _).1 hJ.lp) rfl (by rfl) (by kernel_rfl) ?_
          obtain ⟨⟨es1, clock1, hM, hMemo⟩, hc2, hc3, hc5, hcx, hlp, hdb, hG0⟩ := hJ
          have hF := Fr.refl wl.heap.size w1
          have hsz : w.heap.size ≤ w1.heap.size := by omega
          refine r_forget [(2, ptr b1 0), (3, ptr b2 0), (5, ptr b5 0), (27, .agg ⟨[vint (k : Int), vint (cost (k : Int)), .func (.func (108 + k)) ⟨[]⟩ ⟨[]⟩]⟩), (28, .agg ⟨[vstr (s.drop (ofK (k : Int) s).1.length), vstr (r.drop (ofK (k : Int) s).2.length)]⟩)] ⟨rfl, rfl, rfl, rfl, rfl, trivial⟩ (fun e20 => ?_)
          refine r_seq ?_
          refine r_region' ?_
          refine l_o (o_alloc Try.zeroValue99 rfl rfl ?_)
          intro b21 w21 hzl21 hzr21 _ hb21 hE21
          have hne_b1_b21 : b1 ≠ b21 := by have := hc2.lt; omega
          have hne_b2_b21 : b2 ≠ b21 := by have := hc3.lt; omega
          have hne_b5_b21 : b5 ≠ b21 := by have := hc5.lt; omega
          have hne_bx18_b21 : bx18 ≠ b21 := by have := hcx.lt; omega
          have hbs_b21 : w.heap.size ≤ b21 := Nat.le_trans hsz hzl21
          replace hc2 := hc2.ext hE21
          replace hc3 := hc3.ext hE21
          replace hc5 := hc5.ext hE21
          replace hcx := hcx.ext hE21
          replace hM := hM.keep (hE21.block m hM.lt (by simp))
          replace hlp := hLk _ _ _ _ hlp (hE21.block l (((hLp _ _ _).1 hlp).lt) (by simp))
          replace hdb := (hE21.block db (heap_lt hdb) (by simp)).trans hdb
          replace hG0 := grown_trans hG0 (gm_ext hE21)
          replace hF := hF.trans (Fr.of_ext hE21)
          replace hsz := Nat.le_trans hsz hE21.size
          refine l_o (o_store (vs := [vint (k : Int), vint (cost (k : Int)), .func (.func (108 + k)) ⟨[]⟩ ⟨[]⟩]) (cs' := [vint (k : Int), vint (cost (k : Int)), .func (.func (108 + k)) ⟨[]⟩ ⟨[]⟩]) Try.sizeOf99 rfl rfl rfl rfl hb21 (Nat.le_of_ble_eq_true rfl) rfl rfl ?_)
          intro w22 hz22 hb21 hG22
          replace hsz : w.heap.size ≤ w22.heap.size := by rw [hz22]; exact hsz
          replace hc2 := hc2.upd hG22 (by omega)
          replace hc3 := hc3.upd hG22 (by omega)
          replace hc5 := hc5.upd hG22 (by omega)
          replace hcx := hcx.upd hG22 (by omega)
          replace hM := hM.keep (hG22.block m hM.lt (by simp; omega))
          replace hlp := hLk _ _ _ _ hlp (hG22.block l (((hLp _ _ _).1 hlp).lt) (by simp; omega))
          replace hdb := (hG22.block db (heap_lt hdb) (by simp; omega)).trans hdb
          replace hG0 := gm_upd hG0 hG22 (by omega)
          replace hF := Fr.step hF hG22 (by omega)
          refine l_nil ?_
          refine r_forget [(2, .pointer _), (5, .pointer _), (7, .pointer _), (28, .agg _)] ⟨rfl, rfl, rfl, rfl, trivial⟩ (fun e23 => ?_)
          refine r_region' ?_
          refine l_o (o_alloc Try.zeroValue93 rfl rfl ?_)
          intro b24 w24 hzl24 hzr24 _ hb24 hE24
          have hne_b1_b24 : b1 ≠ b24 := by have := hc2.lt; omega
          have hne_b2_b24 : b2 ≠ b24 := by have := hc3.lt; omega
          have hne_b5_b24 : b5 ≠ b24 := by have := hc5.lt; omega
          have hne_bx18_b24 : bx18 ≠ b24 := by have := hcx.lt; omega
          have hne_b21_b24 : b21 ≠ b24 := by have := hb21.lt; omega
          have hbs_b24 : w.heap.size ≤ b24 := Nat.le_trans hsz hzl24
          replace hc2 := hc2.ext hE24
          replace hc3 := hc3.ext hE24
          replace hc5 := hc5.ext hE24
          replace hcx := hcx.ext hE24
          replace hM := hM.keep (hE24.block m hM.lt (by simp))
          replace hlp := hLk _ _ _ _ hlp (hE24.block l (((hLp _ _ _).1 hlp).lt) (by simp))
          replace hdb := (hE24.block db (heap_lt hdb) (by simp)).trans hdb
          replace hG0 := grown_trans hG0 (gm_ext hE24)
          replace hF := hF.trans (Fr.of_ext hE24)
          replace hb21 := hb21.ext hE24
          replace hsz := Nat.le_trans hsz hE24.size
          refine l_o (o_store (vs := [vstr (s.drop (ofK (k : Int) s).1.length), vstr (r.drop (ofK (k : Int) s).2.length)]) (cs' := [vstr (s.drop (ofK (k : Int) s).1.length), vstr (r.drop (ofK (k : Int) s).2.length)]) Try.sizeOf93 rfl rfl rfl rfl hb24 (Nat.le_of_ble_eq_true rfl) rfl rfl ?_)
          intro w25 hz25 hb24 hG25
          replace hsz : w.heap.size ≤ w25.heap.size := by rw [hz25]; exact hsz
          replace hc2 := hc2.upd hG25 (by omega)
          replace hc3 := hc3.upd hG25 (by omega)
          replace hc5 := hc5.upd hG25 (by omega)
          replace hcx := hcx.upd hG25 (by omega)
          replace hM := hM.keep (hG25.block m hM.lt (by simp; omega))
          replace hlp := hLk _ _ _ _ hlp (hG25.block l (((hLp _ _ _).1 hlp).lt) (by simp; omega))
          replace hdb := (hG25.block db (heap_lt hdb) (by simp; omega)).trans hdb
          replace hG0 := gm_upd hG0 hG25 (by omega)
          replace hF := Fr.step hF hG25 (by omega)
          replace hb21 := hb21.upd hG25 (by omega)
          refine l_nil ?_
          refine r_forget [(2, .pointer _), (5, .pointer _), (7, .pointer _), (8, .pointer _)] ⟨rfl, rfl, rfl, rfl, trivial⟩ (fun e26 => ?_)
          refine r_begin rfl ((hLp _ _ _).1 hlp) ?_
          intro wb27 hzb27 hgb27 hl27
          replace hsz : w.heap.size ≤ wb27.heap.size := by rw [hzb27]; exact hsz
          replace hc2 := hc2.upd hgb27 (by omega)
          replace hc3 := hc3.upd hgb27 (by omega)
          replace hc5 := hc5.upd hgb27 (by omega)
          replace hcx := hcx.upd hgb27 (by omega)
          replace hM := hM.keep (hgb27.block m hM.lt (by simp; omega))
          replace hdb := (hgb27.block db (heap_lt hdb) (by simp; omega)).trans hdb
          replace hG0 := gm_upd hG0 hgb27 (by omega)
          replace hF := Fr.step hF hgb27 (by omega)
          replace hb21 := hb21.upd hgb27 (by omega)
          replace hb24 := hb24.upd hgb27 (by omega)
          have hlp := (hLp _ _ _).2 hl27
          refine r_block ?_
          refine r_draw (gm_refl m) (gm_trans m) [0, 1, 2, 3, 4, 5, 6, 7, 8, 9] [5, 7, 8, 9, 1009] 2 (by kernel_rfl) (by kernel_rfl) ?_
          intro w28 _ hE28
          replace hc2 := hc2.ext hE28
          replace hc3 := hc3.ext hE28
          replace hc5 := hc5.ext hE28
          replace hcx := hcx.ext hE28
          replace hM := hM.keep (hE28.block m hM.lt (by simp))
          replace hdb := (hE28.block db (heap_lt hdb) (by simp)).trans hdb
          replace hG0 := grown_trans hG0 (gm_ext hE28)
          replace hF := hF.trans (Fr.of_ext hE28)
          replace hb21 := hb21.ext hE28
          replace hb24 := hb24.ext hE28
          replace hlp := hLk _ _ _ _ hlp (hE28.block l (((hLp _ _ _).1 hlp).lt) (by simp))
          replace hsz := Nat.le_trans hsz hE28.size
          refine m_q rfl rfl (fun w' hC' => q_load Try.isAgg3 rfl (((hc5.step hC' (by simp; omega)).has (o := 0) rfl)) rfl) ?_
          refine m_q rfl rfl (fun w' hC' => q_fieldAddr (o' := 1) rfl fld99_1 rfl) ?_
          refine m_q rfl rfl (fun w' hC' => q_load Try.isAgg3 rfl (((hb21.step hC' (by simp; omega)).has (o := 1) rfl)) rfl) ?_
          refine m_q rfl rfl (fun w' hC' => q_load Try.isAgg90 rfl (((hc2.step hC' (by simp; omega)).has (o := 0) rfl)) rfl) ?_
          refine m_q rfl rfl (fun w' hC' => q_load_agg (n := 2) Try.isAgg93 Try.sizeOf93 rfl (((hb24.step hC' (by simp; omega)).cells' (cs' := [_, _]) 0 2 rfl)) rfl rfl) ?_
          refine m_o rfl rfl (o_call Try.call59 rfl (ih (s.drop (ofK (k : Int) s).1.length) (r.drop (ofK (k : Int) s).2.length) _ _ _ (ofK_dec hstep) (by rw [List.length_drop]; omega) (by rw [List.length_drop]; omega) (fun x hx => hr33 x (List.mem_of_mem_drop hx)) hM hMemo) rfl ?_)
          rintro _ w29 ⟨rfl, esc29, ckc29, hMc29, hMm29, hGc29⟩
          refine ⟨hGc29, ?_⟩
          replace hsz : w.heap.size ≤ w29.heap.size := Nat.le_trans hsz hGc29.size
          replace hc2 := hc2.upd hGc29 (by omega)
          replace hc3 := hc3.upd hGc29 (by omega)
          replace hc5 := hc5.upd hGc29 (by omega)
          replace hcx := hcx.upd hGc29 (by omega)
          replace hdb := (hGc29.block db (heap_lt hdb) (by simp; omega)).trans hdb
          replace hG0 := gm_upd hG0 hGc29 (by omega)
          replace hF := Fr.step hF hGc29 (by omega)
          replace hb21 := hb21.upd hGc29 (by omega)
          replace hb24 := hb24.upd hGc29 (by omega)
          replace hlp := hLk _ _ _ _ hlp (hGc29.block l (((hLp _ _ _).1 hlp).lt) (by simp; omega))
          have hM := hMc29
          have hMemo := hMm29
          refine m_q rfl rfl (fun w' hC' => q_add rfl rfl (by have := fe_bounds (F := 1048576) (by decide) (s.drop (ofK (k : Int) s).1.length) (r.drop (ofK (k : Int) s).2.length); have := cost_le (k : Int); omega) rfl) ?_
          refine m_o rfl rfl (o_buildSlice (el := 3) (cs := [vint (feA 1048576 k s r), vint ((cost (k : Int)) + (fe 1048576 (s.drop (ofK (k : Int) s).1.length) (r.drop (ofK (k : Int) s).2.length)))]) Try.underlying25 el3 (by decide) (by kernel_rfl) rfl (by decide) rfl ?_)
          intro b30 w30 hzl30 hzr30 _ hb30 hE30 ho30
          refine ⟨(gm_ext hE30), ?_⟩
          have hne_b1_b30 : b1 ≠ b30 := by have := hc2.lt; omega
          have hne_b2_b30 : b2 ≠ b30 := by have := hc3.lt; omega
          have hne_b5_b30 : b5 ≠ b30 := by have := hc5.lt; omega
          have hne_bx18_b30 : bx18 ≠ b30 := by have := hcx.lt; omega
          have hne_b21_b30 : b21 ≠ b30 := by have := hb21.lt; omega
          have hne_b24_b30 : b24 ≠ b30 := by have := hb24.lt; omega
          have hbs_b30 : w.heap.size ≤ b30 := Nat.le_trans hsz hzl30
          replace hc2 := hc2.ext hE30
          replace hc3 := hc3.ext hE30
          replace hc5 := hc5.ext hE30
          replace hcx := hcx.ext hE30
          replace hdb := (hE30.block db (heap_lt hdb) (by simp)).trans hdb
          replace hG0 := grown_trans hG0 (gm_ext hE30)
          replace hF := hF.trans (Fr.of_ext hE30)
          replace hb21 := hb21.ext hE30
          replace hb24 := hb24.ext hE30
          replace hlp := hLk _ _ _ _ hlp (hE30.block l (((hLp _ _ _).1 hlp).lt) (by simp))
          replace hM := hM.keep (hE30.block m hM.lt (by simp))
          replace hsz := Nat.le_trans hsz hE30.size
          refine m_o rfl rfl (o_call Try.call85 rfl (minimum_ret _ _ [feA 1048576 k s r, (cost (k : Int)) + (fe 1048576 (s.drop (ofK (k : Int) s).1.length) (r.drop (ofK (k : Int) s).2.length))] _ (Row.of_owns ho30) (by first | omega | simp) (by first | omega | simp)) rfl ?_)
          rintro _ w31 ⟨rfl, hE31⟩
          refine ⟨(gm_ext hE31), ?_⟩
          replace hc2 := hc2.ext hE31
          replace hc3 := hc3.ext hE31
          replace hc5 := hc5.ext hE31
          replace hcx := hcx.ext hE31
          replace hdb := (hE31.block db (heap_lt hdb) (by simp)).trans hdb
          replace hG0 := grown_trans hG0 (gm_ext hE31)
          replace hF := hF.trans (Fr.of_ext hE31)
          replace hb21 := hb21.ext hE31
          replace hb24 := hb24.ext hE31
          replace hlp := hLk _ _ _ _ hlp (hE31.block l (((hLp _ _ _).1 hlp).lt) (by simp))
          replace hM := hM.keep (hE31.block m hM.lt (by simp))
          replace ho30 := own_ext ho30 hE31
          replace hsz := Nat.le_trans hsz hE31.size
          refine m_last rfl rfl rfl (o_store (vs := [vint (minOf [feA 1048576 k s r, (cost (k : Int)) + (fe 1048576 (s.drop (ofK (k : Int) s).1.length) (r.drop (ofK (k : Int) s).2.length))])]) (cs' := [vint (minOf [feA 1048576 k s r, (cost (k : Int)) + (fe 1048576 (s.drop (ofK (k : Int) s).1.length) (r.drop (ofK (k : Int) s).2.length))])]) Try.sizeOf3 rfl rfl rfl rfl hc5 (Nat.le_of_ble_eq_true rfl) rfl rfl ?_)
          intro w32 hz32 hc5 hG32
          replace hsz : w.heap.size ≤ w32.heap.size := by rw [hz32]; exact hsz
          replace hc2 := hc2.upd hG32 (by omega)
          replace hc3 := hc3.upd hG32 (by omega)
          replace hcx := hcx.upd hG32 (by omega)
          replace hdb := (hG32.block db (heap_lt hdb) (by simp; omega)).trans hdb
          replace hG0 := gm_upd hG0 hG32 (by omega)
          replace hF := Fr.step hF hG32 (by omega)
          replace hb21 := hb21.upd hG32 (by omega)
          replace hb24 := hb24.upd hG32 (by omega)
          replace hlp := hLk _ _ _ _ hlp (hG32.block l (((hLp _ _ _).1 hlp).lt) (by simp; omega))
          replace hM := hM.keep (hG32.block m hM.lt (by simp; omega))
          refine m_nil ?_
          refine r_forget [] trivial (fun e33 => ?_)
          refine r_inBlock ?_
          have hval : minOf [feA 1048576 k s r, (cost (k : Int)) + (fe 1048576 (s.drop (ofK (k : Int) s).1.length) (r.drop (ofK (k : Int) s).2.length))] = feA 1048576 (k + 1) s r := by rw [min_two]; exact hfe
          rw [hval] at hc5
          refine r_round_end rfl ((hLp _ _ _).1 hlp) ?_
          intro we34 hze34 hge34 hl34
          replace hc2 := hc2.upd hge34 (by omega)
          replace hc3 := hc3.upd hge34 (by omega)
          replace hc5 := hc5.upd hge34 (by omega)
          replace hcx := hcx.upd hge34 (by omega)
          replace hdb := (hge34.block db (heap_lt hdb) (by simp; omega)).trans hdb
          replace hG0 := gm_upd hG0 hge34 (by omega)
          replace hF := Fr.step hF hge34 (by omega)
          replace hb21 := hb21.upd hge34 (by omega)
          replace hb24 := hb24.upd hge34 (by omega)
          replace hM := hM.keep (hge34.block m hM.lt (by simp; omega))
          have hlp := (hLp _ _ _).2 hl34
          exact ⟨true, rfl, fun _ => ⟨⟨_, _, hM, hMemo⟩, hc2, hc3, hc5, hcx, hlp, hdb, hG0⟩, (fun h => by cases h), hF, hcx⟩
        · rintro _ w2 (hJ | hJ)
          obtain ⟨⟨es2, clock2, hM2, hMemo2⟩, hc2, hc3, hc5, hcx, hlp, hdb, hG0⟩ := hJ
          have hMemo := hMemo2
          have hM := hM2
          refine ⟨.ready, none, (by decide), hlp, rfl, ?_⟩
          intro w3 hz3 hg3
          have hsz : w.heap.size ≤ w3.heap.size := by have := hG0.size; omega
          replace hc2 := hc2.upd hg3 (by omega)
          replace hc3 := hc3.upd hg3 (by omega)
          replace hc5 := hc5.upd hg3 (by omega)
          replace hM := hM.keep (hg3.block m hM.lt (by simp; omega))
          replace hdb := (hg3.block db (heap_lt hdb) (by simp; omega)).trans hdb
          replace hG0 := gm_upd hG0 hg3 (by omega)
          have hfe6 := fe_six (F := 1048576) s r
          rw [hfe6] at hc5
          refine r_inBlock ?_
          refine r_seq ?_
          refine r_region' ?_
          refine l_q (q_load Try.isAgg90 rfl ((hc2.has (o := 0) rfl)) rfl) ?_
          refine l_q (q_load_agg (n := 2) Try.isAgg93 Try.sizeOf93 rfl ((hc3.cells' (cs' := [_, _]) 0 2 rfl)) rfl rfl) ?_
          refine l_q (q_load Try.isAgg3 rfl ((hc5.has (o := 0) rfl)) rfl) ?_
          refine l_o (o_mapUpdate Try.underlying90 Try.underlying93 rfl rfl rfl hM (fun em w => run_checkKey_pair (n := 9998) Try.underlying93 ⟨by decide, rfl, rfl⟩ ⟨by decide, rfl, rfl⟩ Try.underlying9 Try.isAgg9) (asks_memo hMemo _ _) (sameBits_pair _ _) rfl ?_)
          intro es35 ck35 w35 hz35 hM35 hG35 hin35
          replace hsz : w.heap.size ≤ w35.heap.size := by rw [hz35]; exact hsz
          replace hc2 := hc2.upd hG35 (by omega)
          replace hc3 := hc3.upd hG35 (by omega)
          replace hc5 := hc5.upd hG35 (by omega)
          replace hdb := (hG35.block db (heap_lt hdb) (by simp; omega)).trans hdb
          replace hG0 := gm_upd hG0 hG35 (by omega)
          have hM := hM35
          replace hMemo := memo_put hMemo hin35 (by rfl)
          refine l_nil ?_
          refine r_forget [(5, .pointer _)] ⟨rfl, trivial⟩ (fun e36 => ?_)
          refine r_seq ?_
          refine r_region' ?_
          refine l_q (q_load Try.isAgg3 rfl ((hc5.has (o := 0) rfl)) rfl) ?_
          refine l_q (q_assign (v := .int _ _) rfl rfl) ?_
          refine l_nil ?_
          refine r_forget [(4, .int _ _)] ⟨rfl, trivial⟩ (fun e37 => ?_)
          obtain ⟨wf38, hUf, hzf38, hGf38⟩ := unw_one hdb
          replace hsz : w.heap.size ≤ wf38.heap.size := by rw [hzf38]; exact hsz
          replace hc2 := hc2.upd hGf38 (by omega)
          replace hc3 := hc3.upd hGf38 (by omega)
          replace hc5 := hc5.upd hGf38 (by omega)
          replace hG0 := gm_upd hG0 hGf38 (by omega)
          replace hM := hM.keep (hGf38.block m hM.lt (by simp; omega))
          refine r_ret_ (vs := [.int _ _]) rfl Try.func59 rfl (hUf) ⟨rfl, trivial⟩ ?_
          exact ⟨rfl, _, _, hM, hMemo, hG0⟩
          · exact hJ.elim
      · skip
        try simp only [decide_eq_true_eq, decide_eq_false_iff_not, Bool.not_eq_true', Bool.not_eq_false', Bool.not_not, Bool.not_true, Bool.not_false, Bool.not_eq_true, Bool.not_eq_false, Int.not_lt, Int.not_le, Bool.and_eq_true, Bool.or_eq_true, Bool.and_eq_false_iff, Bool.or_eq_false_iff] at hc15
        refine r_skip ?_
        refine r_seq ?_
        refine r_seq ?_
        refine r_region' ?_
        refine l_q (q_load_agg (n := 2) Try.isAgg93 Try.sizeOf93 rfl ((hb2.cells' (cs' := [_, _]) 0 2 rfl)) rfl rfl) ?_
        refine l_o (o_call Try.call60 rfl (next_ret _ _ _) rfl ?_)
        rintro _ w39 ⟨bx39, rfl, hbx39, hx39, hE39⟩
        have hbs_bx39 : w.heap.size ≤ bx39 := Nat.le_trans hsz hbx39
        replace hM := hM.keep (hE39.block m hM.lt (by simp))
        replace hG0 := grown_trans hG0 (gm_ext hE39)
        replace hb1 := hb1.ext hE39
        replace hb2 := hb2.ext hE39
        replace hb5 := hb5.ext hE39
        replace hsz := Nat.le_trans hsz hE39.size
        refine l_nil ?_
        refine r_forget [(2, .pointer _), (3, .pointer _), (5, .pointer _), (26, .func _ _ _)] ⟨rfl, rfl, rfl, rfl, trivial⟩ (fun e40 => ?_)
        refine r_block ?_
        refine r_rangeFunc' (fst := []) (cap := [_]) rfl rfl Try.call86 ?_
        intro l db wl Lp hLp hLk hEl hll hldb hlne hdbN hlN hdb hlp
        have hlt_b1 := hb1.lt
        have hlt_b2 := hb2.lt
        have hlt_b5 := hb5.lt
        have hlt_bx39 := hx39.lt
        have hltm := hM.lt
        have hszl := hEl.size
        replace hM := hM.keep (hEl.block m hM.lt (by simp))
        replace hG0 := grown_trans hG0 (gm_ext hEl)
        replace hb1 := hb1.ext hEl
        replace hb2 := hb2.ext hEl
        replace hb5 := hb5.ext hEl
        replace hx39 := hx39.ext hEl
        replace hsz := Nat.le_trans hsz hEl.size
        have hbs_l : w.heap.size ≤ l := by omega
        have hbs_db : w.heap.size ≤ db := by omega
        have hLJ : ∀ w1 w2, Below wl.heap.size w1 w2 → Lp w1 .ready none → Lp w2 .ready none := fun w1 w2 hB h => hLk _ _ _ _ h (hB.block l hlN)
        have hst0 : (1048576 : Int) = feA 1048576 0 s r := by show _ = start0 _ _ _; unfold start0; first | rw [if_pos ⟨‹s = []›, ‹r = []›⟩] | rw [if_neg (fun h => absurd h.1 ‹¬ s = []›)] | rw [if_neg (fun h => absurd h.2 ‹¬ r = []›)]
        rw [hst0] at hb5
        have hJ0 : FJ w m b1 b2 b5 bx39 db s r Lp 0 wl := ⟨⟨_, _, hM, hMemo⟩, hb1, hb2, hb5, hx39, hlp, hdb, hG0⟩
        refine (next1_ret l bx39 s r (FJ w m b1 b2 b5 bx39 db s r Lp) (fun _ => False) wl hs hr hr33 (by omega) hJ0 (fun k w1 hJ => hJ.cx) (fun k w1 w2 hJ hB => hJ.below hB (by omega) (by omega) (by omega) (by omega) (by omega) (by omega) (by omega) hLJ) (fun k w1 hk hJ hno => hJ.skip hno) ?_).mono ?_
        · intro k w1 hk hJ hN hstep
          have hfe := fe_eq_step (F := 1048576) hstep
          refine yieldAt_of ((hLp _ _ _).1 hJ.lp) rfl (by rfl) (by kernel_rfl) ?_
          obtain ⟨⟨es1, clock1, hM, hMemo⟩, hc2, hc3, hc5, hcx, hlp, hdb, hG0⟩ := hJ
          have hF := Fr.refl wl.heap.size w1
          have hsz : w.heap.size ≤ w1.heap.size := by omega
          refine r_forget [(2, ptr b1 0), (3, ptr b2 0), (5, ptr b5 0), (27, .agg ⟨[vint (k : Int), vint (cost (k : Int)), .func (.func (108 + k)) ⟨[]⟩ ⟨[]⟩]⟩), (28, .agg ⟨[vstr (s.drop (ofK (k : Int) s).1.length), vstr (r.drop (ofK (k : Int) s).2.length)]⟩)] ⟨rfl, rfl, rfl, rfl, rfl, trivial⟩ (fun e41 => ?_)
          refine r_seq ?_
          refine r_region' ?_
          refine l_o (o_alloc Try.zeroValue99 rfl rfl ?_)
          intro b42 w42 hzl42 hzr42 _ hb42 hE42
          have hne_b1_b42 : b1 ≠ b42 := by have := hc2.lt; omega
          have hne_b2_b42 : b2 ≠ b42 := by have := hc3.lt; omega
          have hne_b5_b42 : b5 ≠ b42 := by have := hc5.lt; omega
          have hne_bx39_b42 : bx39 ≠ b42 := by have := hcx.lt; omega
          have hbs_b42 : w.heap.size ≤ b42 := Nat.le_trans hsz hzl42
          replace hc2 := hc2.ext hE42
          replace hc3 := hc3.ext hE42
          replace hc5 := hc5.ext hE42
          replace hcx := hcx.ext hE42
          replace hM := hM.keep (hE42.block m hM.lt (by simp))
          replace hlp := hLk _ _ _ _ hlp (hE42.block l (((hLp _ _ _).1 hlp).lt) (by simp))
          replace hdb := (hE42.block db (heap_lt hdb) (by simp)).trans hdb
          replace hG0 := grown_trans hG0 (gm_ext hE42)
          replace hF := hF.trans (Fr.of_ext hE42)
          replace hsz := Nat.le_trans hsz hE42.size
          refine l_o (o_store (vs := [vint (k : Int), vint (cost (k : Int)), .func (.func (108 + k)) ⟨[]⟩ ⟨[]⟩]) (cs' := [vint (k : Int), vint (cost (k : Int)), .func (.func (108 + k)) ⟨[]⟩ ⟨[]⟩]) Try.sizeOf99 rfl rfl rfl rfl hb42 (Nat.le_of_ble_eq_true rfl) rfl rfl ?_)
          intro w43 hz43 hb42 hG43
          replace hsz : w.heap.size ≤ w43.heap.size := by rw [hz43]; exact hsz
          replace hc2 := hc2.upd hG43 (by omega)
          replace hc3 := hc3.upd hG43 (by omega)
          replace hc5 := hc5.upd hG43 (by omega)
          replace hcx := hcx.upd hG43 (by omega)
          replace hM := hM.keep (hG43.block m hM.lt (by simp; omega))
          replace hlp := hLk _ _ _ _ hlp (hG43.block l (((hLp _ _ _).1 hlp).lt) (by simp; omega))
          replace hdb := (hG43.block db (heap_lt hdb) (by simp; omega)).trans hdb
          replace hG0 := gm_upd hG0 hG43 (by omega)
          replace hF := Fr.step hF hG43 (by omega)
          refine l_nil ?_
          refine r_forget [(2, .pointer _), (5, .pointer _), (7, .pointer _), (28, .agg _)] ⟨rfl, rfl, rfl, rfl, trivial⟩ (fun e44 => ?_)
          refine r_region' ?_
          refine l_o (o_alloc Try.zeroValue93 rfl rfl ?_)
          intro b45 w45 hzl45 hzr45 _ hb45 hE45
          have hne_b1_b45 : b1 ≠ b45 := by have := hc2.lt; omega
          have hne_b2_b45 : b2 ≠ b45 := by have := hc3.lt; omega
          have hne_b5_b45 : b5 ≠ b45 := by have := hc5.lt; omega
          have hne_bx39_b45 : bx39 ≠ b45 := by have := hcx.lt; omega
          have hne_b42_b45 : b42 ≠ b45 := by have := hb42.lt; omega
          have hbs_b45 : w.heap.size ≤ b45 := Nat.le_trans hsz hzl45
          replace hc2 := hc2.ext hE45
          replace hc3 := hc3.ext hE45
          replace hc5 := hc5.ext hE45
          replace hcx := hcx.ext hE45
          replace hM := hM.keep (hE45.block m hM.lt (by simp))
          replace hlp := hLk _ _ _ _ hlp (hE45.block l (((hLp _ _ _).1 hlp).lt) (by simp))
          replace hdb := (hE45.block db (heap_lt hdb) (by simp)).trans hdb
          replace hG0 := grown_trans hG0 (gm_ext hE45)
          replace hF := hF.trans (Fr.of_ext hE45)
          replace hb42 := hb42.ext hE45
          replace hsz := Nat.le_trans hsz hE45.size
          refine l_o (o_store (vs := [vstr (s.drop (ofK (k : Int) s).1.length), vstr (r.drop (ofK (k : Int) s).2.length)]) (cs' := [vstr (s.drop (ofK (k : Int) s).1.length), vstr (r.drop (ofK (k : Int) s).2.length)]) Try.sizeOf93 rfl rfl rfl rfl hb45 (Nat.le_of_ble_eq_true rfl) rfl rfl ?_)
          intro w46 hz46 hb45 hG46
          replace hsz : w.heap.size ≤ w46.heap.size := by rw [hz46]; exact hsz
          replace hc2 := hc2.upd hG46 (by omega)
          replace hc3 := hc3.upd hG46 (by omega)
          replace hc5 := hc5.upd hG46 (by omega)
          replace hcx := hcx.upd hG46 (by omega)
          replace hM := hM.keep (hG46.block m hM.lt (by simp; omega))
          replace hlp := hLk _ _ _ _ hlp (hG46.block l (((hLp _ _ _).1 hlp).lt) (by simp; omega))
          replace hdb := (hG46.block db (heap_lt hdb) (by simp; omega)).trans hdb
          replace hG0 := gm_upd hG0 hG46 (by omega)
          replace hF := Fr.step hF hG46 (by omega)
          replace hb42 := hb42.upd hG46 (by omega)
          refine l_nil ?_
          refine r_forget [(2, .pointer _), (5, .pointer _), (7, .pointer _), (8, .pointer _)] ⟨rfl, rfl, rfl, rfl, trivial⟩ (fun e47 => ?_)
          refine r_begin rfl ((hLp _ _ _).1 hlp) ?_
          intro wb48 hzb48 hgb48 hl48
          replace hsz : w.heap.size ≤ wb48.heap.size := by rw [hzb48]; exact hsz
          replace hc2 := hc2.upd hgb48 (by omega)
          replace hc3 := hc3.upd hgb48 (by omega)
          replace hc5 := hc5.upd hgb48 (by omega)
          replace hcx := hcx.upd hgb48 (by omega)
          replace hM := hM.keep (hgb48.block m hM.lt (by simp; omega))
          replace hdb := (hgb48.block db (heap_lt hdb) (by simp; omega)).trans hdb
          replace hG0 := gm_upd hG0 hgb48 (by omega)
          replace hF := Fr.step hF hgb48 (by omega)
          replace hb42 := hb42.upd hgb48 (by omega)
          replace hb45 := hb45.upd hgb48 (by omega)
          have hlp := (hLp _ _ _).2 hl48
          refine r_block ?_
          refine r_draw (gm_refl m) (gm_trans m) [0, 1, 2, 3, 4, 5, 6, 7, 8, 9] [5, 7, 8, 9, 1009] 2 (by kernel_rfl) (by kernel_rfl) ?_
          intro w49 _ hE49
          replace hc2 := hc2.ext hE49
          replace hc3 := hc3.ext hE49
          replace hc5 := hc5.ext hE49
          replace hcx := hcx.ext hE49
          replace hM := hM.keep (hE49.block m hM.lt (by simp))
          replace hdb := (hE49.block db (heap_lt hdb) (by simp)).trans hdb
          replace hG0 := grown_trans hG0 (gm_ext hE49)
          replace hF := hF.trans (Fr.of_ext hE49)
          replace hb42 := hb42.ext hE49
          replace hb45 := hb45.ext hE49
          replace hlp := hLk _ _ _ _ hlp (hE49.block l (((hLp _ _ _).1 hlp).lt) (by simp))
          replace hsz := Nat.le_trans hsz hE49.size
          refine m_q rfl rfl (fun w' hC' => q_load Try.isAgg3 rfl (((hc5.step hC' (by simp; omega)).has (o := 0) rfl)) rfl) ?_
          refine m_q rfl rfl (fun w' hC' => q_fieldAddr (o' := 1) rfl fld99_1 rfl) ?_
          refine m_q rfl rfl (fun w' hC' => q_load Try.isAgg3 rfl (((hb42.step hC' (by simp; omega)).has (o := 1) rfl)) rfl) ?_
          refine m_q rfl rfl (fun w' hC' => q_load Try.isAgg90 rfl (((hc2.step hC' (by simp; omega)).has (o := 0) rfl)) rfl) ?_
          refine m_q rfl rfl (fun w' hC' => q_load_agg (n := 2) Try.isAgg93 Try.sizeOf93 rfl (((hb45.step hC' (by simp; omega)).cells' (cs' := [_, _]) 0 2 rfl)) rfl rfl) ?_
          refine m_o rfl rfl (o_call Try.call59 rfl (ih (s.drop (ofK (k : Int) s).1.length) (r.drop (ofK (k : Int) s).2.length) _ _ _ (ofK_dec hstep) (by rw [List.length_drop]; omega) (by rw [List.length_drop]; omega) (fun x hx => hr33 x (List.mem_of_mem_drop hx)) hM hMemo) rfl ?_)
          rintro _ w50 ⟨rfl, esc50, ckc50, hMc50, hMm50, hGc50⟩
          refine ⟨hGc50, ?_⟩
          replace hsz : w.heap.size ≤ w50.heap.size := Nat.le_trans hsz hGc50.size
          replace hc2 := hc2.upd hGc50 (by omega)
          replace hc3 := hc3.upd hGc50 (by omega)
          replace hc5 := hc5.upd hGc50 (by omega)
          replace hcx := hcx.upd hGc50 (by omega)
          replace hdb := (hGc50.block db (heap_lt hdb) (by simp; omega)).trans hdb
          replace hG0 := gm_upd hG0 hGc50 (by omega)
          replace hF := Fr.step hF hGc50 (by omega)
          replace hb42 := hb42.upd hGc50 (by omega)
          replace hb45 := hb45.upd hGc50 (by omega)
          replace hlp := hLk _ _ _ _ hlp (hGc50.block l (((hLp _ _ _).1 hlp).lt) (by simp; omega))
          have hM := hMc50
          have hMemo := hMm50
          refine m_q rfl rfl (fun w' hC' => q_add rfl rfl (by have := fe_bounds (F := 1048576) (by decide) (s.drop (ofK (k : Int) s).1.length) (r.drop (ofK (k : Int) s).2.length); have := cost_le (k : Int); omega) rfl) ?_
          refine m_o rfl rfl (o_buildSlice (el := 3) (cs := [vint (feA 1048576 k s r), vint ((cost (k : Int)) + (fe 1048576 (s.drop (ofK (k : Int) s).1.length) (r.drop (ofK (k : Int) s).2.length)))]) Try.underlying25 el3 (by decide) (by kernel_rfl) rfl (by decide) rfl ?_)
          intro b51 w51 hzl51 hzr51 _ hb51 hE51 ho51
          refine ⟨(gm_ext hE51), ?_⟩
          have hne_b1_b51 : b1 ≠ b51 := by have := hc2.lt; omega
          have hne_b2_b51 : b2 ≠ b51 := by have := hc3.lt; omega
          have hne_b5_b51 : b5 ≠ b51 := by have := hc5.lt; omega
          have hne_bx39_b51 : bx39 ≠ b51 := by have := hcx.lt; omega
          have hne_b42_b51 : b42 ≠ b51 := by have := hb42.lt; omega
          have hne_b45_b51 : b45 ≠ b51 := by have := hb45.lt; omega
          have hbs_b51 : w.heap.size ≤ b51 := Nat.le_trans hsz hzl51
          replace hc2 := hc2.ext hE51
          replace hc3 := hc3.ext hE51
          replace hc5 := hc5.ext hE51
          replace hcx := hcx.ext hE51
          replace hdb := (hE51.block db (heap_lt hdb) (by simp)).trans hdb
          replace hG0 := grown_trans hG0 (gm_ext hE51)
          replace hF := hF.trans (Fr.of_ext hE51)
          replace hb42 := hb42.ext hE51
          replace hb45 := hb45.ext hE51
          replace hlp := hLk _ _ _ _ hlp (hE51.block l (((hLp _ _ _).1 hlp).lt) (by simp))
          replace hM := hM.keep (hE51.block m hM.lt (by simp))
          replace hsz := Nat.le_trans hsz hE51.size
          refine m_o rfl rfl (o_call Try.call85 rfl (minimum_ret _ _ [feA 1048576 k s r, (cost (k : Int)) + (fe 1048576 (s.drop (ofK (k : Int) s).1.length) (r.drop (ofK (k : Int) s).2.length))] _ (Row.of_owns ho51) (by first | omega | simp) (by first | omega | simp)) rfl ?_)
          rintro _ w52 ⟨rfl, hE52⟩
          refine ⟨(gm_ext hE52), ?_⟩
          replace hc2 := hc2.ext hE52
          replace hc3 := hc3.ext hE52
          replace hc5 := hc5.ext hE52
          replace hcx := hcx.ext hE52
          replace hdb := (hE52.block db (heap_lt hdb) (by simp)).trans hdb
          replace hG0 := grown_trans hG0 (gm_ext hE52)
          replace hF := hF.trans (Fr.of_ext hE52)
          replace hb42 := hb42.ext hE52
          replace hb45 := hb45.ext hE52
          replace hlp := hLk _ _ _ _ hlp (hE52.block l (((hLp _ _ _).1 hlp).lt) (by simp))
          replace hM := hM.keep (hE52.block m hM.lt (by simp))
          replace ho51 := own_ext ho51 hE52
          replace hsz := Nat.le_trans hsz hE52.size
          refine m_last rfl rfl rfl (o_store (vs := [vint (minOf [feA 1048576 k s r, (cost (k : Int)) + (fe 1048576 (s.drop (ofK (k : Int) s).1.length) (r.drop (ofK (k : Int) s).2.length))])]) (cs' := [vint (minOf [feA 1048576 k s r, (cost (k : Int)) + (fe 1048576 (s.drop (ofK (k : Int) s).1.length) (r.drop (ofK (k : Int) s).2.length))])]) Try.sizeOf3 rfl rfl rfl rfl hc5 (Nat.le_of_ble_eq_true rfl) rfl rfl ?_)
          intro w53 hz53 hc5 hG53
          replace hsz : w.heap.size ≤ w53.heap.size := by rw [hz53]; exact hsz
          replace hc2 := hc2.upd hG53 (by omega)
          replace hc3 := hc3.upd hG53 (by omega)
          replace hcx := hcx.upd hG53 (by omega)
          replace hdb := (hG53.block db (heap_lt hdb) (by simp; omega)).trans hdb
          replace hG0 := gm_upd hG0 hG53 (by omega)
          replace hF := Fr.step hF hG53 (by omega)
          replace hb42 := hb42.upd hG53 (by omega)
          replace hb45 := hb45.upd hG53 (by omega)
          replace hlp := hLk _ _ _ _ hlp (hG53.block l (((hLp _ _ _).1 hlp).lt) (by simp; omega))
          replace hM := hM.keep (hG53.block m hM.lt (by simp; omega))
          refine m_nil ?_
          refine r_forget [] trivial (fun e54 => ?_)
          refine r_inBlock ?_
          have hval : minOf [feA 1048576 k s r, (cost (k : Int)) + (fe 1048576 (s.drop (ofK (k : Int) s).1.length) (r.drop (ofK (k : Int) s).2.length))] = feA 1048576 (k + 1) s r := by rw [min_two]; exact hfe
          rw [hval] at hc5
          refine r_round_end rfl ((hLp _ _ _).1 hlp) ?_
          intro we55 hze55 hge55 hl55
          replace hc2 := hc2.upd hge55 (by omega)
          replace hc3 := hc3.upd hge55 (by omega)
          replace hc5 := hc5.upd hge55 (by omega)
          replace hcx := hcx.upd hge55 (by omega)
          replace hdb := (hge55.block db (heap_lt hdb) (by simp; omega)).trans hdb
          replace hG0 := gm_upd hG0 hge55 (by omega)
          replace hF := Fr.step hF hge55 (by omega)
          replace hb42 := hb42.upd hge55 (by omega)
          replace hb45 := hb45.upd hge55 (by omega)
          replace hM := hM.keep (hge55.block m hM.lt (by simp; omega))
          have hlp := (hLp _ _ _).2 hl55
          exact ⟨true, rfl, fun _ => ⟨⟨_, _, hM, hMemo⟩, hc2, hc3, hc5, hcx, hlp, hdb, hG0⟩, (fun h => by cases h), hF, hcx⟩
        · rintro _ w2 (hJ | hJ)
          obtain ⟨⟨es2, clock2, hM2, hMemo2⟩, hc2, hc3, hc5, hcx, hlp, hdb, hG0⟩ := hJ
          have hMemo := hMemo2
          have hM := hM2
          refine ⟨.ready, none, (by decide), hlp, rfl, ?_⟩
          intro w3 hz3 hg3
          have hsz : w.heap.size ≤ w3.heap.size := by have := hG0.size; omega
          replace hc2 := hc2.upd hg3 (by omega)
          replace hc3 := hc3.upd hg3 (by omega)
          replace hc5 := hc5.upd hg3 (by omega)
          replace hM := hM.keep (hg3.block m hM.lt (by simp; omega))
          replace hdb := (hg3.block db (heap_lt hdb) (by simp; omega)).trans hdb
          replace hG0 := gm_upd hG0 hg3 (by omega)
          have hfe6 := fe_six (F := 1048576) s r
          rw [hfe6] at hc5
          refine r_inBlock ?_
          refine r_seq ?_
          refine r_region' ?_
          refine l_q (q_load Try.isAgg90 rfl ((hc2.has (o := 0) rfl)) rfl) ?_
          refine l_q (q_load_agg (n := 2) Try.isAgg93 Try.sizeOf93 rfl ((hc3.cells' (cs' := [_, _]) 0 2 rfl)) rfl rfl) ?_
          refine l_q (q_load Try.isAgg3 rfl ((hc5.has (o := 0) rfl)) rfl) ?_
          refine l_o (o_mapUpdate Try.underlying90 Try.underlying93 rfl rfl rfl hM (fun em w => run_checkKey_pair (n := 9998) Try.underlying93 ⟨by decide, rfl, rfl⟩ ⟨by decide, rfl, rfl⟩ Try.underlying9 Try.isAgg9) (asks_memo hMemo _ _) (sameBits_pair _ _) rfl ?_)
          intro es56 ck56 w56 hz56 hM56 hG56 hin56
          replace hsz : w.heap.size ≤ w56.heap.size := by rw [hz56]; exact hsz
          replace hc2 := hc2.upd hG56 (by omega)
          replace hc3 := hc3.upd hG56 (by omega)
          replace hc5 := hc5.upd hG56 (by omega)
          replace hdb := (hG56.block db (heap_lt hdb) (by simp; omega)).trans hdb
          replace hG0 := gm_upd hG0 hG56 (by omega)
          have hM := hM56
          replace hMemo := memo_put hMemo hin56 (by rfl)
          refine l_nil ?_
          refine r_forget [(5, .pointer _)] ⟨rfl, trivial⟩ (fun e57 => ?_)
          refine r_seq ?_
          refine r_region' ?_
          refine l_q (q_load Try.isAgg3 rfl ((hc5.has (o := 0) rfl)) rfl) ?_
          refine l_q (q_assign (v := .int _ _) rfl rfl) ?_
          refine l_nil ?_
          refine r_forget [(4, .int _ _)] ⟨rfl, trivial⟩ (fun e58 => ?_)
          obtain ⟨wf59, hUf, hzf59, hGf59⟩ := unw_one hdb
          replace hsz : w.heap.size ≤ wf59.heap.size := by rw [hzf59]; exact hsz
          replace hc2 := hc2.upd hGf59 (by omega)
          replace hc3 := hc3.upd hGf59 (by omega)
          replace hc5 := hc5.upd hGf59 (by omega)
          replace hG0 := gm_upd hG0 hGf59 (by omega)
          replace hM := hM.keep (hGf59.block m hM.lt (by simp; omega))
          refine r_ret_ (vs := [.int _ _]) rfl Try.func59 rfl (hUf) ⟨rfl, trivial⟩ ?_
          exact ⟨rfl, _, _, hM, hMemo, hG0⟩
          · exact hJ.elim
    · skip
      try simp only [decide_eq_true_eq, decide_eq_false_iff_not, Bool.not_eq_true', Bool.not_eq_false', Bool.not_not, Bool.not_true, Bool.not_false, Bool.not_eq_true, Bool.not_eq_false, Int.not_lt, Int.not_le, Bool.and_eq_true, Bool.or_eq_true, Bool.and_eq_false_iff, Bool.or_eq_false_iff] at hc13
      refine l_q (q_skip rfl) ?_
      refine l_q (q_skip rfl) ?_
      refine l_q (q_skip rfl) ?_
      refine l_q (q_pick_f (v := .bool _) rfl rfl rfl) ?_
      refine l_nil ?_
      refine r_forget [(2, .pointer _), (3, .pointer _), (5, .pointer _), (24, .bool _)] ⟨rfl, rfl, rfl, rfl, trivial⟩ (fun e60 => ?_)
      refine r_cond_f rfl ?_
      refine r_skip ?_
      refine r_seq ?_
      refine r_seq ?_
      refine r_region' ?_
      refine l_q (q_load_agg (n := 2) Try.isAgg93 Try.sizeOf93 rfl ((hb2.cells' (cs' := [_, _]) 0 2 rfl)) rfl rfl) ?_
      refine l_o (o_call Try.call60 rfl (next_ret _ _ _) rfl ?_)
      rintro _ w61 ⟨bx61, rfl, hbx61, hx61, hE61⟩
      have hbs_bx61 : w.heap.size ≤ bx61 := Nat.le_trans hsz hbx61
      replace hM := hM.keep (hE61.block m hM.lt (by simp))
      replace hG0 := grown_trans hG0 (gm_ext hE61)
      replace hb1 := hb1.ext hE61
      replace hb2 := hb2.ext hE61
      replace hb5 := hb5.ext hE61
      replace hsz := Nat.le_trans hsz hE61.size
      refine l_nil ?_
      refine r_forget [(2, .pointer _), (3, .pointer _), (5, .pointer _), (26, .func _ _ _)] ⟨rfl, rfl, rfl, rfl, trivial⟩ (fun e62 => ?_)
      refine r_block ?_
      refine r_rangeFunc' (fst := []) (cap := [_]) rfl rfl Try.call86 ?_
      intro l db wl Lp hLp hLk hEl hll hldb hlne hdbN hlN hdb hlp
      have hlt_b1 := hb1.lt
      have hlt_b2 := hb2.lt
      have hlt_b5 := hb5.lt
      have hlt_bx61 := hx61.lt
      have hltm := hM.lt
      have hszl := hEl.size
      replace hM := hM.keep (hEl.block m hM.lt (by simp))
      replace hG0 := grown_trans hG0 (gm_ext hEl)
      replace hb1 := hb1.ext hEl
      replace hb2 := hb2.ext hEl
      replace hb5 := hb5.ext hEl
      replace hx61 := hx61.ext hEl
      replace hsz := Nat.le_trans hsz hEl.size
      have hbs_l : w.heap.size ≤ l := by omega
      have hbs_db : w.heap.size ≤ db := by omega
      have hLJ : ∀ w1 w2, Below wl.heap.size w1 w2 → Lp w1 .ready none → Lp w2 .ready none := fun w1 w2 hB h => hLk _ _ _ _ h (hB.block l hlN)
      have hst0 : (1048576 : Int) = feA 1048576 0 s r := by show _ = start0 _ _ _; unfold start0; first | rw [if_pos ⟨‹s = []›, ‹r = []›⟩] | rw [if_neg (fun h => absurd h.1 ‹¬ s = []›)] | rw [if_neg (fun h => absurd h.2 ‹¬ r = []›)]
      rw [hst0] at hb5
      have hJ0 : FJ w m b1 b2 b5 bx61 db s r Lp 0 wl := ⟨⟨_, _, hM, hMemo⟩, hb1, hb2, hb5, hx61, hlp, hdb, hG0⟩
      refine (next1_ret l bx61 s r (FJ w m b1 b2 b5 bx61 db s r Lp) (fun _ => False) wl hs hr hr33 (by omega) hJ0 (fun k w1 hJ => hJ.cx) (fun k w1 w2 hJ hB => hJ.below hB (by omega) (by omega) (by omega) (by omega) (by omega) (by omega) (by omega) hLJ) (fun k w1 hk hJ hno => hJ.skip hno) ?_).mono ?_
      · intro k w1 hk hJ hN hstep
        have hfe := fe_eq_step (F := 1048576) hstep
        refine yieldAt_of ((hLp _ _ _).1 hJ.lp) rfl (by rfl) (by kernel_rfl) ?_
        obtain ⟨⟨es1, clock1, hM, hMemo⟩, hc2, hc3, hc5, hcx, hlp, hdb, hG0⟩ := hJ
        have hF := Fr.refl wl.heap.size w1
        have hsz : w.heap.size ≤ w1.heap.size := by omega
        refine r_forget [(2, ptr b1 0), (3, ptr b2 0), (5, ptr b5 0), (27, .agg ⟨[vint (k : Int), vint (cost (k : Int)), .func (.func (108 + k)) ⟨[]⟩ ⟨[]⟩]⟩), (28, .agg ⟨[vstr (s.drop (ofK (k : Int) s).1.length), vstr (r.drop (ofK (k : Int) s).2.length)]⟩)] ⟨rfl, rfl, rfl, rfl, rfl, trivial⟩ (fun e63 => ?_)
        refine r_seq ?_
        refine r_region' ?_
        refine l_o (o_alloc Try.zeroValue99 rfl rfl ?_)
        intro b64 w64 hzl64 hzr64 _ hb64 hE64
        have hne_b1_b64 : b1 ≠ b64 := by have := hc2.lt; omega
        have hne_b2_b64 : b2 ≠ b64 := by have := hc3.lt; omega
        have hne_b5_b64 : b5 ≠ b64 := by have := hc5.lt; omega
        have hne_bx61_b64 : bx61 ≠ b64 := by have := hcx.lt; omega
        have hbs_b64 : w.heap.size ≤ b64 := Nat.le_trans hsz hzl64
        replace hc2 := hc2.ext hE64
        replace hc3 := hc3.ext hE64
        replace hc5 := hc5.ext hE64
        replace hcx := hcx.ext hE64
        replace hM := hM.keep (hE64.block m hM.lt (by simp))
        replace hlp := hLk _ _ _ _ hlp (hE64.block l (((hLp _ _ _).1 hlp).lt) (by simp))
        replace hdb := (hE64.block db (heap_lt hdb) (by simp)).trans hdb
        replace hG0 := grown_trans hG0 (gm_ext hE64)
        replace hF := hF.trans (Fr.of_ext hE64)
        replace hsz := Nat.le_trans hsz hE64.size
        refine l_o (o_store (vs := [vint (k : Int), vint (cost (k : Int)), .func (.func (108 + k)) ⟨[]⟩ ⟨[]⟩]) (cs' := [vint (k : Int), vint (cost (k : Int)), .func (.func (108 + k)) ⟨[]⟩ ⟨[]⟩]) Try.sizeOf99 rfl rfl rfl rfl hb64 (Nat.le_of_ble_eq_true rfl) rfl rfl ?_)
        intro w65 hz65 hb64 hG65
        replace hsz : w.heap.size ≤ w65.heap.size := by rw [hz65]; exact hsz
        replace hc2 := hc2.upd hG65 (by omega)
        replace hc3 := hc3.upd hG65 (by omega)
        replace hc5 := hc5.upd hG65 (by omega)
        replace hcx := hcx.upd hG65 (by omega)
        replace hM := hM.keep (hG65.block m hM.lt (by simp; omega))
        replace hlp := hLk _ _ _ _ hlp (hG65.block l (((hLp _ _ _).1 hlp).lt) (by simp; omega))
        replace hdb := (hG65.block db (heap_lt hdb) (by simp; omega)).trans hdb
        replace hG0 := gm_upd hG0 hG65 (by omega)
        replace hF := Fr.step hF hG65 (by omega)
        refine l_nil ?_
        refine r_forget [(2, .pointer _), (5, .pointer _), (7, .pointer _), (28, .agg _)] ⟨rfl, rfl, rfl, rfl, trivial⟩ (fun e66 => ?_)
        refine r_region' ?_
        refine l_o (o_alloc Try.zeroValue93 rfl rfl ?_)
        intro b67 w67 hzl67 hzr67 _ hb67 hE67
        have hne_b1_b67 : b1 ≠ b67 := by have := hc2.lt; omega
        have hne_b2_b67 : b2 ≠ b67 := by have := hc3.lt; omega
        have hne_b5_b67 : b5 ≠ b67 := by have := hc5.lt; omega
        have hne_bx61_b67 : bx61 ≠ b67 := by have := hcx.lt; omega
        have hne_b64_b67 : b64 ≠ b67 := by have := hb64.lt; omega
        have hbs_b67 : w.heap.size ≤ b67 := Nat.le_trans hsz hzl67
        replace hc2 := hc2.ext hE67
        replace hc3 := hc3.ext hE67
        replace hc5 := hc5.ext hE67
        replace hcx := hcx.ext hE67
        replace hM := hM.keep (hE67.block m hM.lt (by simp))
        replace hlp := hLk _ _ _ _ hlp (hE67.block l (((hLp _ _ _).1 hlp).lt) (by simp))
        replace hdb := (hE67.block db (heap_lt hdb) (by simp)).trans hdb
        replace hG0 := grown_trans hG0 (gm_ext hE67)
        replace hF := hF.trans (Fr.of_ext hE67)
        replace hb64 := hb64.ext hE67
        replace hsz := Nat.le_trans hsz hE67.size
        refine l_o (o_store (vs := [vstr (s.drop (ofK (k : Int) s).1.length), vstr (r.drop (ofK (k : Int) s).2.length)]) (cs' := [vstr (s.drop (ofK (k : Int) s).1.length), vstr (r.drop (ofK (k : Int) s).2.length)]) Try.sizeOf93 rfl rfl rfl rfl hb67 (Nat.le_of_ble_eq_true rfl) rfl rfl ?_)
        intro w68 hz68 hb67 hG68
        replace hsz : w.heap.size ≤ w68.heap.size := by rw [hz68]; exact hsz
        replace hc2 := hc2.upd hG68 (by omega)
        replace hc3 := hc3.upd hG68 (by omega)
        replace hc5 := hc5.upd hG68 (by omega)
        replace hcx := hcx.upd hG68 (by omega)
        replace hM := hM.keep (hG68.block m hM.lt (by simp; omega))
        replace hlp := hLk _ _ _ _ hlp (hG68.block l (((hLp _ _ _).1 hlp).lt) (by simp; omega))
        replace hdb := (hG68.block db (heap_lt hdb) (by simp; omega)).trans hdb
        replace hG0 := gm_upd hG0 hG68 (by omega)
        replace hF := Fr.step hF hG68 (by omega)
        replace hb64 := hb64.upd hG68 (by omega)
        refine l_nil ?_
        refine r_forget [(2, .pointer _), (5, .pointer _), (7, .pointer _), (8, .pointer _)] ⟨rfl, rfl, rfl, rfl, trivial⟩ (fun e69 => ?_)
        refine r_begin rfl ((hLp _ _ _).1 hlp) ?_
        intro wb70 hzb70 hgb70 hl70
        replace hsz : w.heap.size ≤ wb70.heap.size := by rw [hzb70]; exact hsz
        replace hc2 := hc2.upd hgb70 (by omega)
        replace hc3 := hc3.upd hgb70 (by omega)
        replace hc5 := hc5.upd hgb70 (by omega)
        replace hcx := hcx.upd hgb70 (by omega)
        replace hM := hM.keep (hgb70.block m hM.lt (by simp; omega))
        replace hdb := (hgb70.block db (heap_lt hdb) (by simp; omega)).trans hdb
        replace hG0 := gm_upd hG0 hgb70 (by omega)
        replace hF := Fr.step hF hgb70 (by omega)
        replace hb64 := hb64.upd hgb70 (by omega)
        replace hb67 := hb67.upd hgb70 (by omega)
        have hlp := (hLp _ _ _).2 hl70
        refine r_block ?_
        refine r_draw (gm_refl m) (gm_trans m) [0, 1, 2, 3, 4, 5, 6, 7, 8, 9] [5, 7, 8, 9, 1009] 2 (by kernel_rfl) (by kernel_rfl) ?_
        intro w71 _ hE71
        replace hc2 := hc2.ext hE71
        replace hc3 := hc3.ext hE71
        replace hc5 := hc5.ext hE71
        replace hcx := hcx.ext hE71
        replace hM := hM.keep (hE71.block m hM.lt (by simp))
        replace hdb := (hE71.block db (heap_lt hdb) (by simp)).trans hdb
        replace hG0 := grown_trans hG0 (gm_ext hE71)
        replace hF := hF.trans (Fr.of_ext hE71)
        replace hb64 := hb64.ext hE71
        replace hb67 := hb67.ext hE71
        replace hlp := hLk _ _ _ _ hlp (hE71.block l (((hLp _ _ _).1 hlp).lt) (by simp))
        replace hsz := Nat.le_trans hsz hE71.size
        refine m_q rfl rfl (fun w' hC' => q_load Try.isAgg3 rfl (((hc5.step hC' (by simp; omega)).has (o := 0) rfl)) rfl) ?_
        refine m_q rfl rfl (fun w' hC' => q_fieldAddr (o' := 1) rfl fld99_1 rfl) ?_
        refine m_q rfl rfl (fun w' hC' => q_load Try.isAgg3 rfl (((hb64.step hC' (by simp; omega)).has (o := 1) rfl)) rfl) ?_
        refine m_q rfl rfl (fun w' hC' => q_load Try.isAgg90 rfl (((hc2.step hC' (by simp; omega)).has (o := 0) rfl)) rfl) ?_
        refine m_q rfl rfl (fun w' hC' => q_load_agg (n := 2) Try.isAgg93 Try.sizeOf93 rfl (((hb67.step hC' (by simp; omega)).cells' (cs' := [_, _]) 0 2 rfl)) rfl rfl) ?_
        refine m_o rfl rfl (o_call Try.call59 rfl (ih (s.drop (ofK (k : Int) s).1.length) (r.drop (ofK (k : Int) s).2.length) _ _ _ (ofK_dec hstep) (by rw [List.length_drop]; omega) (by rw [List.length_drop]; omega) (fun x hx => hr33 x (List.mem_of_mem_drop hx)) hM hMemo) rfl ?_)
        rintro _ w72 ⟨rfl, esc72, ckc72, hMc72, hMm72, hGc72⟩
        refine ⟨hGc72, ?_⟩
        replace hsz : w.heap.size ≤ w72.heap.size := Nat.le_trans hsz hGc72.size
        replace hc2 := hc2.upd hGc72 (by omega)
        replace hc3 := hc3.upd hGc72 (by omega)
        replace hc5 := hc5.upd hGc72 (by omega)
        replace hcx := hcx.upd hGc72 (by omega)
        replace hdb := (hGc72.block db (heap_lt hdb) (by simp; omega)).trans hdb
        replace hG0 := gm_upd hG0 hGc72 (by omega)
        replace hF := Fr.step hF hGc72 (by omega)
        replace hb64 := hb64.upd hGc72 (by omega)
        replace hb67 := hb67.upd hGc72 (by omega)
        replace hlp := hLk _ _ _ _ hlp (hGc72.block l (((hLp _ _ _).1 hlp).lt) (by simp; omega))
        have hM := hMc72
        have hMemo := hMm72
        refine m_q rfl rfl (fun w' hC' => q_add rfl rfl (by have := fe_bounds (F := 1048576) (by decide) (s.drop (ofK (k : Int) s).1.length) (r.drop (ofK (k : Int) s).2.length); have := cost_le (k : Int); omega) rfl) ?_
        refine m_o rfl rfl (o_buildSlice (el := 3) (cs := [vint (feA 1048576 k s r), vint ((cost (k : Int)) + (fe 1048576 (s.drop (ofK (k : Int) s).1.length) (r.drop (ofK (k : Int) s).2.length)))]) Try.underlying25 el3 (by decide) (by kernel_rfl) rfl (by decide) rfl ?_)
        intro b73 w73 hzl73 hzr73 _ hb73 hE73 ho73
        refine ⟨(gm_ext hE73), ?_⟩
        have hne_b1_b73 : b1 ≠ b73 := by have := hc2.lt; omega
        have hne_b2_b73 : b2 ≠ b73 := by have := hc3.lt; omega
        have hne_b5_b73 : b5 ≠ b73 := by have := hc5.lt; omega
        have hne_bx61_b73 : bx61 ≠ b73 := by have := hcx.lt; omega
        have hne_b64_b73 : b64 ≠ b73 := by have := hb64.lt; omega
        have hne_b67_b73 : b67 ≠ b73 := by have := hb67.lt; omega
        have hbs_b73 : w.heap.size ≤ b73 := Nat.le_trans hsz hzl73
        replace hc2 := hc2.ext hE73
        replace hc3 := hc3.ext hE73
        replace hc5 := hc5.ext hE73
        replace hcx := hcx.ext hE73
        replace hdb := (hE73.block db (heap_lt hdb) (by simp)).trans hdb
        replace hG0 := grown_trans hG0 (gm_ext hE73)
        replace hF := hF.trans (Fr.of_ext hE73)
        replace hb64 := hb64.ext hE73
        replace hb67 := hb67.ext hE73
        replace hlp := hLk _ _ _ _ hlp (hE73.block l (((hLp _ _ _).1 hlp).lt) (by simp))
        replace hM := hM.keep (hE73.block m hM.lt (by simp))
        replace hsz := Nat.le_trans hsz hE73.size
        refine m_o rfl rfl (o_call Try.call85 rfl (minimum_ret _ _ [feA 1048576 k s r, (cost (k : Int)) + (fe 1048576 (s.drop (ofK (k : Int) s).1.length) (r.drop (ofK (k : Int) s).2.length))] _ (Row.of_owns ho73) (by first | omega | simp) (by first | omega | simp)) rfl ?_)
        rintro _ w74 ⟨rfl, hE74⟩
        refine ⟨(gm_ext hE74), ?_⟩
        replace hc2 := hc2.ext hE74
        replace hc3 := hc3.ext hE74
        replace hc5 := hc5.ext hE74
        replace hcx := hcx.ext hE74
        replace hdb := (hE74.block db (heap_lt hdb) (by simp)).trans hdb
        replace hG0 := grown_trans hG0 (gm_ext hE74)
        replace hF := hF.trans (Fr.of_ext hE74)
        replace hb64 := hb64.ext hE74
        replace hb67 := hb67.ext hE74
        replace hlp := hLk _ _ _ _ hlp (hE74.block l (((hLp _ _ _).1 hlp).lt) (by simp))
        replace hM := hM.keep (hE74.block m hM.lt (by simp))
        replace ho73 := own_ext ho73 hE74
        replace hsz := Nat.le_trans hsz hE74.size
        refine m_last rfl rfl rfl (o_store (vs := [vint (minOf [feA 1048576 k s r, (cost (k : Int)) + (fe 1048576 (s.drop (ofK (k : Int) s).1.length) (r.drop (ofK (k : Int) s).2.length))])]) (cs' := [vint (minOf [feA 1048576 k s r, (cost (k : Int)) + (fe 1048576 (s.drop (ofK (k : Int) s).1.length) (r.drop (ofK (k : Int) s).2.length))])]) Try.sizeOf3 rfl rfl rfl rfl hc5 (Nat.le_of_ble_eq_true rfl) rfl rfl ?_)
        intro w75 hz75 hc5 hG75
        replace hsz : w.heap.size ≤ w75.heap.size := by rw [hz75]; exact hsz
        replace hc2 := hc2.upd hG75 (by omega)
        replace hc3 := hc3.upd hG75 (by omega)
        replace hcx := hcx.upd hG75 (by omega)
        replace hdb := (hG75.block db (heap_lt hdb) (by simp; omega)).trans hdb
        replace hG0 := gm_upd hG0 hG75 (by omega)
        replace hF := Fr.step hF hG75 (by omega)
        replace hb64 := hb64.upd hG75 (by omega)
        replace hb67 := hb67.upd hG75 (by omega)
        replace hlp := hLk _ _ _ _ hlp (hG75.block l (((hLp _ _ _).1 hlp).lt) (by simp; omega))
        replace hM := hM.keep (hG75.block m hM.lt (by simp; omega))
        refine m_nil ?_
        refine r_forget [] trivial (fun e76 => ?_)
        refine r_inBlock ?_
        have hval : minOf [feA 1048576 k s r, (cost (k : Int)) + (fe 1048576 (s.drop (ofK (k : Int) s).1.length) (r.drop (ofK (k : Int) s).2.length))] = feA 1048576 (k + 1) s r := by rw [min_two]; exact hfe
        rw [hval] at hc5
        refine r_round_end rfl ((hLp _ _ _).1 hlp) ?_
        intro we77 hze77 hge77 hl77
        replace hc2 := hc2.upd hge77 (by omega)
        replace hc3 := hc3.upd hge77 (by omega)
        replace hc5 := hc5.upd hge77 (by omega)
        replace hcx := hcx.upd hge77 (by omega)
        replace hdb := (hge77.block db (heap_lt hdb) (by simp; omega)).trans hdb
        replace hG0 := gm_upd hG0 hge77 (by omega)
        replace hF := Fr.step hF hge77 (by omega)
        replace hb64 := hb64.upd hge77 (by omega)
        replace hb67 := hb67.upd hge77 (by omega)
        replace hM := hM.keep (hge77.block m hM.lt (by simp; omega))
        have hlp := (hLp _ _ _).2 hl77
        exact ⟨true, rfl, fun _ => ⟨⟨_, _, hM, hMemo⟩, hc2, hc3, hc5, hcx, hlp, hdb, hG0⟩, (fun h => by cases h), hF, hcx⟩
      · rintro _ w2 (hJ | hJ)
        obtain ⟨⟨es2, clock2, hM2, hMemo2⟩, hc2, hc3, hc5, hcx, hlp, hdb, hG0⟩ := hJ
        have hMemo := hMemo2
        have hM := hM2
        refine ⟨.ready, none, (by decide), hlp, rfl, ?_⟩
        intro w3 hz3 hg3
        have hsz : w.heap.size ≤ w3.heap.size := by have := hG0.size; omega
        replace hc2 := hc2.upd hg3 (by omega)
        replace hc3 := hc3.upd hg3 (by omega)
        replace hc5 := hc5.upd hg3 (by omega)
        replace hM := hM.keep (hg3.block m hM.lt (by simp; omega))
        replace hdb := (hg3.block db (heap_lt hdb) (by simp; omega)).trans hdb
        replace hG0 := gm_upd hG0 hg3 (by omega)
        have hfe6 := fe_six (F := 1048576) s r
        rw [hfe6] at hc5
        refine r_inBlock ?_
        refine r_seq ?_
        refine r_region' ?_
        refine l_q (q_load Try.isAgg90 rfl ((hc2.has (o := 0) rfl)) rfl) ?_
        refine l_q (q_load_agg (n := 2) Try.isAgg93 Try.sizeOf93 rfl ((hc3.cells' (cs' := [_, _]) 0 2 rfl)) rfl rfl) ?_
        refine l_q (q_load Try.isAgg3 rfl ((hc5.has (o := 0) rfl)) rfl) ?_
        refine l_o (o_mapUpdate Try.underlying90 Try.underlying93 rfl rfl rfl hM (fun em w => run_checkKey_pair (n := 9998) Try.underlying93 ⟨by decide, rfl, rfl⟩ ⟨by decide, rfl, rfl⟩ Try.underlying9 Try.isAgg9) (asks_memo hMemo _ _) (sameBits_pair _ _) rfl ?_)
        intro es78 ck78 w78 hz78 hM78 hG78 hin78
        replace hsz : w.heap.size ≤ w78.heap.size := by rw [hz78]; exact hsz
        replace hc2 := hc2.upd hG78 (by omega)
        replace hc3 := hc3.upd hG78 (by omega)
        replace hc5 := hc5.upd hG78 (by omega)
        replace hdb := (hG78.block db (heap_lt hdb) (by simp; omega)).trans hdb
        replace hG0 := gm_upd hG0 hG78 (by omega)
        have hM := hM78
        replace hMemo := memo_put hMemo hin78 (by rfl)
        refine l_nil ?_
        refine r_forget [(5, .pointer _)] ⟨rfl, trivial⟩ (fun e79 => ?_)
        refine r_seq ?_
        refine r_region' ?_
        refine l_q (q_load Try.isAgg3 rfl ((hc5.has (o := 0) rfl)) rfl) ?_
        refine l_q (q_assign (v := .int _ _) rfl rfl) ?_
        refine l_nil ?_
        refine r_forget [(4, .int _ _)] ⟨rfl, trivial⟩ (fun e80 => ?_)
        obtain ⟨wf81, hUf, hzf81, hGf81⟩ := unw_one hdb
        replace hsz : w.heap.size ≤ wf81.heap.size := by rw [hzf81]; exact hsz
        replace hc2 := hc2.upd hGf81 (by omega)
        replace hc3 := hc3.upd hGf81 (by omega)
        replace hc5 := hc5.upd hGf81 (by omega)
        replace hG0 := gm_upd hG0 hGf81 (by omega)
        replace hM := hM.keep (hGf81.block m hM.lt (by simp; omega))
        refine r_ret_ (vs := [.int _ _]) rfl Try.func59 rfl (hUf) ⟨rfl, trivial⟩ ?_
        exact ⟨rfl, _, _, hM, hMemo, hG0⟩
        · exact hJ.elim
end Go.Proofs.Ytkcbgpilfegofaa
