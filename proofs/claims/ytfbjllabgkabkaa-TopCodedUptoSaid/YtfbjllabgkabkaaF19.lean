/- Contracts. -/
import Derived.Test.YtfbjllabgkabkaaF18
import Derived.Test.YtfbjllabgkabkaaGvB
set_option linter.unusedVariables false
set_option linter.unusedSimpArgs false
namespace Go.Proofs.Ytfbjllabgkabkaa
open Go Go.RowKit Go.Gv Go.Fl

abbrev FAR : Int := 1048576
def good (s r : Sg) (k : Nat) : Bool := (stepR (k : Int) s r).2.2 && decide (cost (k : Int) + fe 1048576 (stepR (k : Int) s r).1 (stepR (k : Int) s r).2.1 = fe 1048576 s r)
def exN : Nat → Sg → Sg → List Int
  | 0, _, _ => []
  | n + 1, s, r => if s = [] ∧ r = [] then [] else match (List.range 6).find? (good s r) with
    | some k => (k : Int) :: exN n (stepR (k : Int) s r).1 (stepR (k : Int) s r).2.1
    | none => []
def ex (s r : Sg) : List Int := exN (s.length + r.length) s r
theorem good_dec {s r : Sg} {k : Nat} (h : good s r k = true) : (stepR (k : Int) s r).1.length + (stepR (k : Int) s r).2.1.length < s.length + r.length := by
  unfold good at h
  rw [Bool.and_eq_true] at h
  exact stepR_dec h.1
theorem exN_stable : ∀ (L n m : Nat) (s r : Sg), s.length + r.length ≤ L → s.length + r.length ≤ n → s.length + r.length ≤ m → exN n s r = exN m s r := by
  have zero : ∀ (n : Nat) (s r : Sg), s = [] ∧ r = [] → exN n s r = [] := by
    intro n s r h
    cases n with
    | zero => rfl
    | succ n => rw [exN, if_pos h]
  intro L
  induction L with
  | zero =>
    intro n m s r hL _ _
    have h0 : s = [] ∧ r = [] := ⟨List.eq_nil_of_length_eq_zero (by omega), List.eq_nil_of_length_eq_zero (by omega)⟩
    rw [zero n s r h0, zero m s r h0]
  | succ L ih =>
    intro n m s r hL hn hm
    by_cases h0 : s = [] ∧ r = []
    · rw [zero n s r h0, zero m s r h0]
    · have hp : 0 < s.length + r.length := by
        rcases Nat.eq_zero_or_pos (s.length + r.length) with h | h
        · exact absurd ⟨List.eq_nil_of_length_eq_zero (by omega), List.eq_nil_of_length_eq_zero (by omega)⟩ h0
        · exact h
      obtain ⟨n, rfl⟩ : ∃ j, n = j + 1 := ⟨n - 1, by omega⟩
      obtain ⟨m, rfl⟩ : ∃ j, m = j + 1 := ⟨m - 1, by omega⟩
      rw [exN, exN, if_neg h0, if_neg h0]
      cases hf : (List.range 6).find? (good s r) with
      | none => rfl
      | some k =>
        have := good_dec (List.find?_some hf)
        simp only
        rw [ih n m _ _ (by omega) (by omega) (by omega)]
theorem ex_end : ex [] [] = [] := rfl
theorem ex_step {s r : Sg} {k : Nat} (h : ¬ (s = [] ∧ r = [])) (hk : k < 6) (hg : good s r k = true) (hno : ∀ j, j < k → good s r j = false) : ex s r = (k : Int) :: ex (stepR (k : Int) s r).1 (stepR (k : Int) s r).2.1 := by
  have hd := good_dec hg
  unfold ex
  obtain ⟨n, hn⟩ : ∃ j, s.length + r.length = j + 1 := ⟨s.length + r.length - 1, by omega⟩
  have hf : (List.range 6).find? (good s r) = some k := by
    rw [List.find?_range_eq_some]
    exact ⟨hg, by simpa using hk, fun j hj => by simp [hno j hj]⟩
  rw [hn, exN, if_neg h, hf]
  simp only
  rw [exN_stable (s.length + r.length) n _ _ _ (by omega) (by omega) (Nat.le_refl _)]
theorem feA_good {s r : Sg} : ∀ k : Nat, k ≤ 6 → (∀ j : Nat, j < k → (stepR (j : Int) s r).2.2 = true → cost (j : Int) + fe 1048576 (stepR (j : Int) s r).1 (stepR (j : Int) s r).2.1 ≠ feA 1048576 k s r) → feA 1048576 k s r = start0 1048576 s r
  | 0, _, _ => rfl
  | k + 1, hk, h => by
    rw [feA_succ (by omega)] at h ⊢
    unfold stepMin at h ⊢
    by_cases hs : (stepR (k : Int) s r).2.2 = true
    · rw [if_pos hs] at h ⊢
      have h1 := h k (by omega) hs
      have hm : min (feA 1048576 k s r) (cost (k : Int) + fe 1048576 (stepR (k : Int) s r).1 (stepR (k : Int) s r).2.1) = feA 1048576 k s r := by omega
      rw [hm] at h ⊢
      exact feA_good k (by omega) (fun j hj hjs => h j (by omega) hjs)
    · rw [if_neg hs] at h ⊢
      exact feA_good k (by omega) (fun j hj hjs => h j (by omega) hjs)
theorem fe_good {s r : Sg} (h : ¬ (s = [] ∧ r = [])) (hf : fe 1048576 s r < 1048576) (hno : ∀ j : Nat, j < 6 → good s r j = false) : False := by
  have h6 := fe_six (F := 1048576) s r
  have := feA_good (s := s) (r := r) 6 (Nat.le_refl _) (fun j hj hs he => by
    have hg := hno j hj
    unfold good at hg
    rw [hs, Bool.true_and, decide_eq_false_iff_not] at hg
    exact hg (by rw [he, h6]))
  rw [h6, start0, if_neg h] at this
  omega
theorem good_of {s r a b : Sg} {k : Nat} (hst : stepR (k : Int) s r = (a, b, true)) (he : cost (k : Int) + fe 1048576 a b = fe 1048576 s r) : good s r k = true := by
  unfold good; rw [hst]; simp [he]
theorem good_not {s r a b : Sg} {k : Nat} (hst : stepR (k : Int) s r = (a, b, true)) (he : ¬ cost (k : Int) + fe 1048576 a b = fe 1048576 s r) : good s r k = false := by
  unfold good; rw [hst]; simp [he]
theorem good_no {s r : Sg} {k : Nat} (h : (stepR (k : Int) s r).2.2 = false) : good s r k = false := by
  unfold good; rw [h, Bool.false_and]
def exL (s r : Sg) : List Int := if (errs s r).2 = 0 then ex s r else []
theorem Marks.below {B : Nat} {D : List Deferred} {w w' wl : World} (h : Marks B D w) (h0 : Marks B D wl) (hB : Below wl.heap.size w w') : Marks B D w' := by
  obtain ⟨ds, h1, h2, h3⟩ := h
  obtain ⟨ds0, h4, _, h5⟩ := h0
  refine ⟨ds, h1, h2, fun d hd => ⟨(h3 d hd).1, (hB.block d ?_).trans (h3 d hd).2⟩⟩
  have hm : marked d ∈ ds0.map marked := by rw [← h4, h1]; exact List.mem_map.2 ⟨d, hd, rfl⟩
  obtain ⟨d', hd', he⟩ := List.mem_map.1 hm
  have : d' = d := by
    have := congrArg (fun x : Deferred => x.target) he
    simpa [marked] using this
  subst this
  exact heap_lt (h5 d' hd').2
structure EJ (w0 : World) (m b8 b9 b10 b11 bx : Nat) (D : List Deferred) (s r : Sg) (ys : List Int) (oa : Option Addr) (oc : Nat) (Lp : World → LoopState → Option Code → Prop) (k : Nat) (w : World) : Prop where
  mem : ∃ es clock, MapAt w m es clock ∧ Memo es
  c8 : Blk w b8 [.map (some m)]
  c9 : Blk w b9 [vstr s, vstr r]
  c10 : Blk w b10 [.slice oa ys.length oc]
  own : w.ownsRow (b10 + 1) 3 1 (.slice oa ys.length oc) ys.length (ys.map vint)
  c11 : Blk w b11 [vint (fe 1048576 s r)]
  cx : Blk w bx [vstr s, vstr r]
  lp : Lp w .ready none
  mks : Marks w0.heap.size D w
  b0 : Below w0.heap.size w0 w
  no : ∀ j, j < k → good s r j = false
structure EE (w0 : World) (m b8 b9 b10 : Nat) (D : List Deferred) (s r : Sg) (ys : List Int) (Lp : World → LoopState → Option Code → Prop) (k : Nat) (oa : Option Addr) (oc : Nat) (w : World) : Prop where
  mem : ∃ es clock, MapAt w m es clock ∧ Memo es
  c8 : Blk w b8 [.map (some m)]
  c9 : Blk w b9 [vstr (s.drop (ofK (k : Int) s).1.length), vstr (r.drop (ofK (k : Int) s).2.length)]
  c10 : Blk w b10 [.slice oa (ys ++ [(k : Int)]).length oc]
  own : w.ownsRow (b10 + 1) 3 1 (.slice oa (ys ++ [(k : Int)]).length oc) (ys ++ [(k : Int)]).length ((ys ++ [(k : Int)]).map vint)
  lp : Lp w .done (some (.exit 2))
  mks : Marks w0.heap.size D w
  b0 : Below w0.heap.size w0 w
  kl : k < 6
  gd : good s r k = true
  no : ∀ j, j < k → good s r j = false
  st : stepR (k : Int) s r = (s.drop (ofK (k : Int) s).1.length, r.drop (ofK (k : Int) s).2.length, true)
theorem EJ.below {w0 wl : World} {m b8 b9 b10 b11 bx : Nat} {D : List Deferred} {s r : Sg} {ys : List Int} {oa : Option Addr} {oc : Nat} {Lp : World → LoopState → Option Code → Prop} {k : Nat} {w w' : World} (h : EJ w0 m b8 b9 b10 b11 bx D s r ys oa oc Lp k w) (hB : Below wl.heap.size w w')
    (hm : m < wl.heap.size) (h8 : b8 < wl.heap.size) (h9 : b9 < wl.heap.size) (h10 : b10 < wl.heap.size) (h11 : b11 < wl.heap.size) (hx : bx < wl.heap.size) (h0 : w0.heap.size ≤ wl.heap.size) (hol : ∀ g, (Value.slice oa ys.length oc).ownBlock = some g → g < wl.heap.size) (hmk : Marks w0.heap.size D wl)
    (hL : ∀ w1 w2, Below wl.heap.size w1 w2 → Lp w1 .ready none → Lp w2 .ready none) : EJ w0 m b8 b9 b10 b11 bx D s r ys oa oc Lp k w' := by
  obtain ⟨⟨es, clock, hM, hMe⟩, c8, c9, c10, own, c11, cx, lp, mk, b0, no⟩ := h
  exact ⟨⟨es, clock, hM.keep (hB.block m hm), hMe⟩, c8.keep (hB.block _ h8), c9.keep (hB.block _ h9), c10.keep (hB.block _ h10), own_keepB own (fun g hg => hB.block g (hol g hg)), c11.keep (hB.block _ h11), cx.keep (hB.block _ hx), hL _ _ hB lp, Marks.below mk hmk hB, b0.trans (hB.mono h0), no⟩
theorem no_succ {s r : Sg} {k : Nat} (h : ∀ j, j < k → good s r j = false) (hk : good s r k = false) : ∀ j, j < k + 1 → good s r j = false := fun j hj => by
  rcases Nat.lt_succ_iff_lt_or_eq.1 hj with h1 | h1
  · exact h j h1
  · subst h1; exact hk
theorem EJ.skip {w0 : World} {m b8 b9 b10 b11 bx : Nat} {D : List Deferred} {s r : Sg} {ys : List Int} {oa : Option Addr} {oc : Nat} {Lp : World → LoopState → Option Code → Prop} {k : Nat} {w : World} (h : EJ w0 m b8 b9 b10 b11 bx D s r ys oa oc Lp k w) (hno : (stepR (k : Int) s r).2.2 = false) : EJ w0 m b8 b9 b10 b11 bx D s r ys oa oc Lp (k + 1) w :=
  ⟨h.mem, h.c8, h.c9, h.c10, h.own, h.c11, h.cx, h.lp, h.mks, h.b0, no_succ h.no (good_no hno)⟩

theorem errs_ok {s r : Sg} (h : (errs s r).2 = 0) : signsFault s r = 0 ∧ fe 1048576 s r < 1048576 := by
  unfold errs at h
  split at h
  · rename_i h1; exact absurd h h1
  · rename_i h1
    refine ⟨by simpa using h1, ?_⟩
    split at h
    · cases h
    · omega
theorem good_lt {s r a b : Sg} {k : Nat} (h : good s r k = true) (hst : stepR (k : Int) s r = (a, b, true)) (hf : fe 1048576 s r < 1048576) : fe 1048576 a b < 1048576 := by
  unfold good at h
  rw [hst] at h
  have h1 : cost (k : Int) + fe 1048576 a b = fe 1048576 s r := by simpa using h
  have := cost_le (k : Int)
  omega
theorem fr_stepO {N : Nat} {a b c : World} {row : Option Nat} (h : Fr N a b) (h' : b.grownBy c row) (hj : ∀ k, row = some k → k < N ∨ a.heap.size ≤ k) : Fr N a c :=
  ⟨h'.os.trans h.os, h'.tape.trans h.tape, h'.output.trans h.output, Nat.le_trans h.size h'.size, fun k hk hl => (h'.block k (Nat.lt_of_lt_of_le hl h.size) (fun he => by have := hj k he.symm; omega)).trans (h.keep k hk hl)⟩
theorem own_ne_loop {w : World} {base e size n l n' : Nat} {v : Value} {xs : List Value} {s : LoopState} {p : Option Code} {f : FuncId} {en : Env} {ps : List Tmp} {x y : Code} (h : w.ownsRow base e size v n xs) (hl : LoopAt w l s p f n' en ps x y) : ∀ g : Nat, v.ownBlock = some g → g ≠ l := by
  intro g hg he
  rw [he] at hg
  obtain ⟨_, _, hl, _⟩ := hl
  rcases h.2 with ⟨rfl, _⟩ | ⟨g', cap, cur, rfl, _, hb, _⟩
  · cases hg
  · obtain rfl : g' = l := by simpa [Value.ownBlock] using hg
    rw [show w.heap[g']? = _ from hl] at hb; cases hb



end Go.Proofs.Ytfbjllabgkabkaa
