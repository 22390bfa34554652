/- Contracts. -/
import Derived.Test.YtgdanglidienmaaF10
set_option linter.unusedVariables false
set_option linter.unusedSimpArgs false
namespace Go.Proofs.Ytgdanglidienmaa
open Go Go.RowKit Go.Gv Go.Fl

def stepMin (rec : Sg → Sg → Int) (s r : Sg) (m k : Int) : Int := if (stepR k s r).2.2 = true then min m (cost k + rec (stepR k s r).1 (stepR k s r).2.1) else m
def kinds6 : List Int := [0, 1, 2, 3, 4, 5]
def start0 (F : Int) (s r : Sg) : Int := if s = [] ∧ r = [] then 0 else F
def feN (F : Int) : Nat → Sg → Sg → Int
  | 0, s, r => start0 F s r
  | n + 1, s, r => kinds6.foldl (stepMin (feN F n) s r) (start0 F s r)
def fe (F : Int) (s r : Sg) : Int := feN F (s.length + r.length) s r
def feA (F : Int) (k : Nat) (s r : Sg) : Int := (kinds6.take k).foldl (stepMin (fe F) s r) (start0 F s r)
theorem tw_pos {k : Int} {s : Sg} {t : Nat} {wr : Sg} (h : stepTW k s = some (t, wr)) : (1 ≤ t ∧ 1 ≤ s.length) ∨ 1 ≤ wr.length := by
  have hn : s ≠ [] → 1 ≤ s.length := List.length_pos_iff.2
  unfold stepTW at h
  repeat' split at h
  all_goals first
    | (cases h; done)
    | (injection h with h; injection h with h1 h2; subst h1; subst h2; first
        | (right; simp; done)
        | (left; refine ⟨by omega, ?_⟩; first | (apply hn; assumption) | (apply hn; intro he; simp_all; done) | omega))
theorem stepR_dec {k : Int} {s r : Sg} (h : (stepR k s r).2.2 = true) : (stepR k s r).1.length + (stepR k s r).2.1.length < s.length + r.length := by
  cases ht : stepTW k s with
  | none => rw [stepR_none ht] at h; cases h
  | some p =>
    obtain ⟨t, wr⟩ := p
    cases hp : hasPfx r wr with
    | false => rw [stepR_no ht hp] at h; cases h
    | true =>
      rw [stepR_yes ht hp]
      have h1 := tw_pos ht
      have h2 := pfx_len hp
      simp only [List.length_drop]
      omega
theorem stepMin_congr {f g : Sg → Sg → Int} {s r : Sg} (h : ∀ k, (stepR k s r).2.2 = true → f (stepR k s r).1 (stepR k s r).2.1 = g (stepR k s r).1 (stepR k s r).2.1) (m k : Int) : stepMin f s r m k = stepMin g s r m k := by
  unfold stepMin
  split
  · rename_i hk; rw [h k hk]
  · rfl
theorem foldl_stepMin_congr {f g : Sg → Sg → Int} {s r : Sg} (h : ∀ k, (stepR k s r).2.2 = true → f (stepR k s r).1 (stepR k s r).2.1 = g (stepR k s r).1 (stepR k s r).2.1) : ∀ (l : List Int) (m : Int), l.foldl (stepMin f s r) m = l.foldl (stepMin g s r) m
  | [], _ => rfl
  | k :: l, m => by rw [List.foldl_cons, List.foldl_cons, stepMin_congr h, foldl_stepMin_congr h l]
theorem foldl_none {f : Sg → Sg → Int} {s r : Sg} (h : ∀ k, (stepR k s r).2.2 = false) : ∀ (l : List Int) (m : Int), l.foldl (stepMin f s r) m = m
  | [], _ => rfl
  | k :: l, m => by
    have : stepMin f s r m k = m := by unfold stepMin; rw [h k]; simp
    rw [List.foldl_cons, this, foldl_none h l]
theorem feN_stable (F : Int) : ∀ (L n m : Nat) (s r : Sg), s.length + r.length ≤ L → s.length + r.length ≤ n → s.length + r.length ≤ m → feN F n s r = feN F m s r := by
  intro L
  induction L with
  | zero =>
    intro n m s r hL _ _
    have hno : ∀ k, (stepR k s r).2.2 = false := fun k => by
      cases h : (stepR k s r).2.2 with
      | false => rfl
      | true => have := stepR_dec h; omega
    have h1 : ∀ n, feN F n s r = start0 F s r := fun n => by
      cases n with
      | zero => rfl
      | succ n => exact foldl_none hno _ _
    rw [h1, h1]
  | succ L ih =>
    intro n m s r hL hn hm
    by_cases h0 : s.length + r.length ≤ L
    · exact ih n m s r h0 hn hm
    · cases n with
      | zero => omega
      | succ n =>
        cases m with
        | zero => omega
        | succ m =>
          show List.foldl _ _ _ = List.foldl _ _ _
          exact foldl_stepMin_congr (fun k hk => ih n m _ _ (by have := stepR_dec hk; omega) (by have := stepR_dec hk; omega) (by have := stepR_dec hk; omega)) _ _
theorem fe_six {F : Int} (s r : Sg) : feA F 6 s r = fe F s r := by
  have h1 : fe F s r = feN F (s.length + r.length + 1) s r := feN_stable F _ _ _ s r (Nat.le_refl _) (Nat.le_refl _) (by omega)
  rw [h1]
  refine foldl_stepMin_congr (s := s) (r := r) (f := fe F) (g := feN F (s.length + r.length)) (fun k hk => ?_) kinds6 (start0 F s r)
  have h := stepR_dec hk
  exact feN_stable F (s.length + r.length) _ _ _ _ (by omega) (Nat.le_refl _) (by omega)
theorem feA_succ {F : Int} {k : Nat} {s r : Sg} (hk : k < 6) : feA F (k + 1) s r = stepMin (fe F) s r (feA F k s r) (k : Int) := by
  unfold feA
  have : kinds6.take (k + 1) = kinds6.take k ++ [(k : Int)] := by
    rcases (show k = 0 ∨ k = 1 ∨ k = 2 ∨ k = 3 ∨ k = 4 ∨ k = 5 by omega) with rfl | rfl | rfl | rfl | rfl | rfl <;> rfl
  rw [this, List.foldl_append]; rfl
theorem fe_eq_step {F : Int} {k : Nat} {s r a b : Sg} (h : stepR (k : Int) s r = (a, b, true)) (hk : k < 6 := by assumption) : min (feA F k s r) (cost (k : Int) + fe F a b) = feA F (k + 1) s r := by
  rw [feA_succ hk, stepMin, h]; simp
theorem ofK_dec {k : Int} {s r a b : Sg} (h : stepR k s r = (a, b, true)) : a.length + b.length < s.length + r.length := by
  have := stepR_dec (k := k) (s := s) (r := r) (by rw [h])
  rwa [h] at this
theorem fold_bounds {F : Int} {f : Sg → Sg → Int} {s r : Sg} (h : ∀ k, (stepR k s r).2.2 = true → 0 ≤ f (stepR k s r).1 (stepR k s r).2.1) : ∀ (l : List Int) (m : Int), 0 ≤ m → m ≤ F → 0 ≤ l.foldl (stepMin f s r) m ∧ l.foldl (stepMin f s r) m ≤ F
  | [], m, h0, h1 => ⟨h0, h1⟩
  | k :: l, m, h0, h1 => by
    rw [List.foldl_cons]
    have hm : 0 ≤ stepMin f s r m k ∧ stepMin f s r m k ≤ F := by
      unfold stepMin
      split
      · rename_i hk; have := h k hk; have := cost_le k; omega
      · exact ⟨h0, h1⟩
    exact fold_bounds h l _ hm.1 hm.2
theorem start_bounds {F : Int} (hF : 0 ≤ F) (s r : Sg) : 0 ≤ start0 F s r ∧ start0 F s r ≤ F := by unfold start0; split <;> omega
theorem feN_bounds {F : Int} (hF : 0 ≤ F) : ∀ (n : Nat) (s r : Sg), 0 ≤ feN F n s r ∧ feN F n s r ≤ F
  | 0, s, r => start_bounds hF s r
  | n + 1, s, r => fold_bounds (fun _ _ => (feN_bounds hF n _ _).1) _ _ (start_bounds hF s r).1 (start_bounds hF s r).2
theorem fe_bounds {F : Int} (hF : 0 ≤ F) (s r : Sg) : 0 ≤ fe F s r ∧ fe F s r ≤ F := feN_bounds hF _ s r
theorem feA_bounds {F : Int} (hF : 0 ≤ F) (k : Nat) (s r : Sg) : 0 ≤ feA F k s r ∧ feA F k s r ≤ F := fold_bounds (fun _ _ => (fe_bounds hF _ _).1) _ _ (start_bounds hF s r).1 (start_bounds hF s r).2
def Memo (es : List MapEntry) : Prop := ∀ en ∈ es, ∃ a b : Sg, en.key = .agg ⟨[vstr a, vstr b]⟩ ∧ en.val = vint (fe 1048576 a b)
theorem memo_nil : Memo [] := fun _ h => by simp at h
theorem key_inj {a b c d : Sg} (h : Value.agg ⟨[vstr a, vstr b]⟩ = .agg ⟨[vstr c, vstr d]⟩) : a = c ∧ b = d := by
  injection h with h; injection h with h; injection h with h1 h2; injection h2 with h2 _
  injection h1 with h1; injection h2 with h2
  injection h1 with h1; injection h2 with h2
  injection h1 with h1; injection h2 with h2
  exact ⟨h1, h2⟩
theorem memo_get {es : List MapEntry} {a b : Sg} {v : Value} {ok : Bool} (h : Memo es) (h1 : ok = true → ∃ en ∈ es, en.key = .agg ⟨[vstr a, vstr b]⟩ ∧ en.val = v) (h2 : ok = false → v = vint 0 ∧ ∀ en ∈ es, en.key ≠ .agg ⟨[vstr a, vstr b]⟩) :
    ∃ x : Int, v = vint x ∧ (ok = true → x = fe 1048576 a b) := by
  cases ok with
  | true =>
    obtain ⟨en, hen, hk, rfl⟩ := h1 rfl
    obtain ⟨c, d, h3, h4⟩ := h en hen
    obtain ⟨rfl, rfl⟩ := key_inj (h3.symm.trans hk)
    exact ⟨_, h4, fun _ => rfl⟩
  | false => exact ⟨0, (h2 rfl).1, fun h => by cases h⟩
theorem memo_put {es es' : List MapEntry} {a b : Sg} {v : Value} (h : Memo es) (hin : ∀ en ∈ es', (en ∈ es) ∨ (en.key = .agg ⟨[vstr a, vstr b]⟩ ∧ en.val = v)) (hv : v = vint (fe 1048576 a b)) : Memo es' := fun en hen => by
  rcases hin en hen with h1 | ⟨h1, h2⟩
  · exact h en h1
  · exact ⟨a, b, h1, h2.trans hv⟩
def FewP (m : Nat) (s r : Sg) (w : World) (v : Value) (w' : World) : Prop := v = vint (fe 1048576 s r) ∧ ∃ es clock, MapAt w' m es clock ∧ Memo es ∧ w.grownBy w' (some m)
structure FJ (w0 : World) (m b2 b3 b5 bx db : Nat) (s r : Sg) (Lp : World → LoopState → Option Code → Prop) (k : Nat) (w : World) : Prop where
  mem : ∃ es clock, MapAt w m es clock ∧ Memo es
  c2 : Blk w b2 [.map (some m)]
  c3 : Blk w b3 [vstr s, vstr r]
  c5 : Blk w b5 [vint (feA 1048576 k s r)]
  cx : Blk w bx [vstr s, vstr r]
  lp : Lp w .ready none
  dfr : w.heap[db]? = some (.deferred (some []))
  gr : w0.grownBy w (some m)
theorem FJ.below {w0 : World} {m b2 b3 b5 bx db N : Nat} {s r : Sg} {Lp : World → LoopState → Option Code → Prop} {k : Nat} {w w' : World} (h : FJ w0 m b2 b3 b5 bx db s r Lp k w) (hB : Below N w w') (hm : m < N) (h2 : b2 < N) (h3 : b3 < N) (h5 : b5 < N) (hx : bx < N) (hd : db < N) (h0 : w0.heap.size ≤ N)
    (hL : ∀ w1 w2, Below N w1 w2 → Lp w1 .ready none → Lp w2 .ready none) : FJ w0 m b2 b3 b5 bx db s r Lp k w' := by
  obtain ⟨⟨es, clock, hM, hMe⟩, c2, c3, c5, cx, lp, dfr, gr⟩ := h
  exact ⟨⟨es, clock, hM.keep (hB.block m hm), hMe⟩, c2.keep (hB.block _ h2), c3.keep (hB.block _ h3), c5.keep (hB.block _ h5), cx.keep (hB.block _ hx), hL _ _ hB lp, (hB.block _ hd).trans dfr, gm_below gr hB h0⟩
theorem FJ.skip {w0 : World} {m b2 b3 b5 bx db : Nat} {s r : Sg} {Lp : World → LoopState → Option Code → Prop} {k : Nat} {w : World} (h : FJ w0 m b2 b3 b5 bx db s r Lp k w) (hno : (stepR (k : Int) s r).2.2 = false) (hk : k < 6 := by assumption) : FJ w0 m b2 b3 b5 bx db s r Lp (k + 1) w := by
  have : feA 1048576 (k + 1) s r = feA 1048576 k s r := by rw [feA_succ hk, stepMin, hno]; simp
  obtain ⟨h1, c2, c3, c5, cx, lp, dfr, gr⟩ := h
  exact ⟨h1, c2, c3, by rw [this]; exact c5, cx, lp, dfr, gr⟩



end Go.Proofs.Ytgdanglidienmaa
