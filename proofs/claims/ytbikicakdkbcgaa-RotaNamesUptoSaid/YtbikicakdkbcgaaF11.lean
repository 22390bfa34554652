/- Contracts. -/
import Derived.Test.YtbikicakdkbcgaaF10
set_option linter.unusedVariables false
set_option linter.unusedSimpArgs false
namespace Go.Proofs.Ytbikicakdkbcgaa
open Go Go.RowKit Go.Gv Go.Fl

def stepMin (rec : Sg → Sg → Int) (s r : Sg) (m k : Int) : Int := if (stepR k s r).2.2 = true then min m (cost k + rec (stepR k s r).1 (stepR k s r).2.1) else m
def kinds6 : List Int := [0, 1, 2, 3, 4, 5]
def start0 (F : Int) (s r : Sg) : Int := if s = [] ∧ r = [] then 0 else F
def feN (F : Int) : Nat → Sg → Sg → Int
  | 0, s, r => start0 F s r
  | n + 1, s, r => kinds6.foldl (stepMin (feN F n) s r) (start0 F s r)
def fe (F : Int) (s r : Sg) : Int := feN F (s.length + r.length) s r
def feA (F : Int) (k : Nat) (s r : Sg) : Int := (kinds6.take k).foldl (stepMin (fe F) s r) (start0 F s r)
theorem feA_succ {F : Int} {k : Nat} {s r : Sg} (hk : k < 6) : feA F (k + 1) s r = stepMin (fe F) s r (feA F k s r) (k : Int) := by
  unfold feA
  have : kinds6.take (k + 1) = kinds6.take k ++ [(k : Int)] := by
    rcases (show k = 0 ∨ k = 1 ∨ k = 2 ∨ k = 3 ∨ k = 4 ∨ k = 5 by omega) with rfl | rfl | rfl | rfl | rfl | rfl <;> rfl
  rw [this, List.foldl_append]; rfl
def Memo (es : List MapEntry) : Prop := ∀ en ∈ es, ∃ a b : Sg, en.key = .agg ⟨[vstr a, vstr b]⟩ ∧ en.val = vint (fe 1048576 a b)
structure FJ (w0 : World) (m b2 b3 b5 bx db : Nat) (s r : Sg) (Lp : World → LoopState → Option Code → Prop) (k : Nat) (w : World) : Prop where
  mem : ∃ es clock, MapAt w m es clock ∧ Memo es
  c2 : Blk w b2 [.map (some m)]
  c3 : Blk w b3 [vstr s, vstr r]
  c5 : Blk w b5 [vint (feA 1048576 k s r)]
  cx : Blk w bx [vstr s, vstr r]
  lp : Lp w .ready none
  dfr : w.heap[db]? = some (.deferred (some []))
  gr : w0.grownBy w (some m)
theorem FJ.below {w0 : World} {m b2 b3 b5 bx db N : Nat} {s r : Sg} {Lp : World → LoopState → Option Code → Prop} {k : Nat} {w w' : World} (h : FJ w0 m b2 b3 b5 bx db s r Lp k w) (hB : Below N w w') (hm : m < N) (h2 : b2 < N) (h3 : b3 < N) (h5 : b5 < N) (hx : bx < N) (hd : db < N) (h0 : w0.heap.size ≤ N)
    (hL : ∀ w1 w2, Below N w1 w2 → Lp w1 .ready none → Lp w2 .ready none) : FJ w0 m b2 b3 b5 bx db s r Lp k w' := by
  obtain ⟨⟨es, clock, hM, hMe⟩, c2, c3, c5, cx, lp, dfr, gr⟩ := h
  exact ⟨⟨es, clock, hM.keep (hB.block m hm), hMe⟩, c2.keep (hB.block _ h2), c3.keep (hB.block _ h3), c5.keep (hB.block _ h5), cx.keep (hB.block _ hx), hL _ _ hB lp, (hB.block _ hd).trans dfr, gm_below gr hB h0⟩
theorem FJ.skip {w0 : World} {m b2 b3 b5 bx db : Nat} {s r : Sg} {Lp : World → LoopState → Option Code → Prop} {k : Nat} {w : World} (h : FJ w0 m b2 b3 b5 bx db s r Lp k w) (hno : (stepR (k : Int) s r).2.2 = false) (hk : k < 6 := by assumption) : FJ w0 m b2 b3 b5 bx db s r Lp (k + 1) w := by
  have : feA 1048576 (k + 1) s r = feA 1048576 k s r := by rw [feA_succ hk, stepMin, hno]; simp
  obtain ⟨h1, c2, c3, c5, cx, lp, dfr, gr⟩ := h
  exact ⟨h1, c2, c3, by rw [this]; exact c5, cx, lp, dfr, gr⟩



end Go.Proofs.Ytbikicakdkbcgaa
