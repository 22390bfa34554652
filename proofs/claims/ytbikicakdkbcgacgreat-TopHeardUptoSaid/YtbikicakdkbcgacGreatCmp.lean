import Derived.WalkKit
import Derived.Deep.LoopGhost
import Derived.Deep.Draws
import Derived.Lib.Walk
import Derived.Lib.Slices
import Derived.Test.YtbikicakdkbcgacGreatSort
set_option linter.unusedVariables false
namespace Go.Proofs
open Go.RowKit
def Sees (w : World) (a : Option Addr) (xs : List Int) : Prop := ∀ j, j < xs.length → ∃ b o, a = some ⟨b, o, none⟩ ∧ w.cell? ⟨b, o + j, none⟩ = some (.int .i64 (xs.getD j 0))
def cmpV : List Int → List Int → Int
  | [], [] => 0
  | [], _ :: _ => -1
  | _ :: _, [] => 1
  | x :: xs, y :: ys => if x = y then cmpV xs ys else Lib.compareInt x y
theorem drop_cons {xs : List Int} {k : Nat} (h : k < xs.length) : xs.drop k = xs.getD k 0 :: xs.drop (k + 1) := by
  rw [List.drop_eq_getElem_cons h, List.getD_eq_getElem?_getD, List.getElem?_eq_getElem h]; rfl
theorem cmpz (x y : Int) : Lib.compareInt x y = 0 ↔ x = y := by
  unfold Lib.compareInt
  split
  · constructor
    · intro h; cases h
    · omega
  · split
    · constructor
      · intro h; cases h
      · omega
    · constructor
      · omega
      · intro _; rfl
theorem cmpV_nil {ys : List Int} {n : Nat} (h : n ≤ ys.length) : cmpV [] (ys.drop n) = if n < ys.length then -1 else 0 := by
  by_cases h2 : n < ys.length
  · rw [if_pos h2, drop_cons h2]; rfl
  · rw [if_neg h2, List.drop_eq_nil_of_le (by omega)]; rfl
theorem Tryz.cmp_call (x y : Int) (w : World) : Calls Tryz.prog 92 #[.int .i64 x, .int .i64 y] w fun e w' => e = .returned (.int .i64 (Lib.compareInt x y)) ∧ w' = w := AnyG.cmp_Compare_int Tryz.laysCmp x y w
set_option maxHeartbeats 2000000 in
set_option maxRecDepth 100000 in
theorem Tryz.compare_call (a1 a2 : Option Addr) (c1 c2 : Nat) (xs ys : List Int) (w : World) (h1 : Sees w a1 xs) (h2 : Sees w a2 ys) (hx : xs.length ≤ 2097152) (hy : ys.length ≤ 2097152) :
    Calls Tryz.prog 54 #[.slice a1 xs.length c1, .slice a2 ys.length c2] w fun e w' => e = .returned (.int .i64 (cmpV xs ys)) ∧ ∃ q, w' = w.drewN q := by
  go_enter Tryz.func54, Tryz.ntmps54
  go_wp2
  go_loopg [11] xs.length (fun g s11 wr => ∃ k q : Nat, k ≤ xs.length ∧ k ≤ ys.length ∧ xs.length - k ≤ g ∧ s11 = .int .i64 k ∧ wr = w.drewN q ∧ cmpV (xs.drop k) (ys.drop k) = cmpV xs ys)
  case atStart => exact ⟨0, 0, Nat.zero_le _, Nat.zero_le _, by omega, rfl, rfl, rfl⟩
  case round =>
    obtain ⟨k, q, hk, hk2, hg, rfl, rfl, heq⟩ := hrel
    by_cases hlt : k < xs.length
    · obtain ⟨b1, o1, ha1, g1⟩ := h1 k hlt
      subst ha1
      have hd1 : xs.drop k = xs.getD k 0 :: xs.drop (k + 1) := drop_cons hlt
      by_cases hlt2 : k < ys.length
      · obtain ⟨b2, o2, ha2, g2⟩ := h2 k hlt2
        subst ha2
        have hd2 : ys.drop k = ys.getD k 0 :: ys.drop (k + 1) := drop_cons hlt2
        have hstep : cmpV xs ys = if xs.getD k 0 = ys.getD k 0 then cmpV (xs.drop (k + 1)) (ys.drop (k + 1)) else Lib.compareInt (xs.getD k 0) (ys.getD k 0) := by rw [← heq, hd1, hd2]; rfl
        have A : Aside (cmpV xs ys = if xs.getD k 0 = ys.getD k 0 then cmpV (xs.drop (k + 1)) (ys.drop (k + 1)) else Lib.compareInt (xs.getD k 0) (ys.getD k 0)) := hstep
        clear heq h1 h2 hd1 hd2 hstep
        generalize hxk : xs.getD k 0 = x at g1
        generalize hyk : ys.getD k 0 = y at g2
        have B : Aside (xs.getD k 0 = x ∧ ys.getD k 0 = y) := ⟨hxk, hyk⟩
        clear hxk hyk
        have hcz : Lib.compareInt x y = 0 ↔ x = y := cmpz x y
        generalize hr : Lib.compareInt x y = r at hcz
        have C : Aside (Lib.compareInt x y = r) := hr
        have hcm : ∀ W, Calls Tryz.prog 92 #[.int .i64 x, .int .i64 y] W fun e w' => e = .returned (.int .i64 r) ∧ w' = W := fun W => by rw [← hr]; exact Tryz.cmp_call x y W
        clear hr
        by_cases hxy : r = 0
        · subst hxy
          go_wp2_with (go_at_call 92; refine (hcm _).mono ?_; rintro e w' ⟨rfl, rfl⟩)
          go_roundg (xs.length - (k + 1))
          case measure => omega
          case rel =>
            refine ⟨k + 1, q, by omega, by omega, by omega, by go_num, rfl, ?_⟩
            rw [A.out, if_pos (by rw [B.out.1, B.out.2]; exact by simpa using hcz)]
        · go_wp2_with (go_at_call 92; refine (hcm _).mono ?_; rintro e w' ⟨rfl, rfl⟩)
          go_ret
          refine ⟨?_, q, rfl⟩
          rw [A.out, if_neg (by rw [B.out.1, B.out.2]; exact fun h => hxy (hcz.2 h)), B.out.1, B.out.2, C.out]
          rfl
      · have hd2 : ys.drop k = [] := List.drop_eq_nil_of_le (by omega)
        have hstep : cmpV xs ys = 1 := by rw [← heq, hd1, hd2]; rfl
        have A : Aside (cmpV xs ys = 1) := hstep
        clear heq h1 h2 hd1 hd2 hstep
        generalize hxk : xs.getD k 0 = x at g1
        clear hxk
        go_wp2
        go_ret
        exact ⟨by rw [A.out]; rfl, q, rfl⟩
    · have hk3 : k = xs.length := by omega
      subst hk3
      have hstep : cmpV xs ys = if xs.length < ys.length then -1 else 0 := by rw [← heq, List.drop_length]; exact cmpV_nil hk2
      have A : Aside (cmpV xs ys = if xs.length < ys.length then -1 else 0) := hstep
      clear heq h1 h2 hstep
      by_cases hll : xs.length < ys.length
      · go_wp2
        go_ret
        exact ⟨by rw [A.out, if_pos hll]; rfl, q, rfl⟩
      · go_wp2
        go_ret
        exact ⟨by rw [A.out, if_neg hll]; rfl, q, rfl⟩
theorem grow_nil (v : World) : Sort.grow v #[] = v := by unfold Sort.grow; rw [Array.append_empty]
def cmpL (xs ys : List Int) : Int := if xs.length = ys.length then cmpV xs ys else (xs.length : Int) - (ys.length : Int)
set_option maxHeartbeats 2000000 in
set_option maxRecDepth 100000 in
theorem Tryz.lists1_call (a1 a2 : Option Addr) (c1 c2 : Nat) (xs ys : List Int) (w : World) (h1 : Sees w a1 xs) (h2 : Sees w a2 ys) (hx : xs.length ≤ 2097152) (hy : ys.length ≤ 2097152) :
    Calls Tryz.prog 53 #[.slice a1 xs.length c1, .slice a2 ys.length c2] w fun e w' => e = .returned (.int .i64 (cmpL xs ys)) ∧ ∃ q os, w' = Sort.grow (w.drewN q) os := by
  have hcon := Tryz.compare_call a1 a2 c1 c2 xs ys w h1 h2 hx hy
  have A : Aside ((if xs.length = ys.length then cmpV xs ys else (xs.length : Int) - (ys.length : Int)) = cmpL xs ys) := rfl
  generalize hz : cmpV xs ys = z at hcon A
  clear h1 h2 hz
  generalize xs.length = n at hx hcon A ⊢
  generalize ys.length = m at hy hcon A ⊢
  go_enter Tryz.func53, Tryz.ntmps53
  by_cases hl : n = m
  · subst hl
    go_wp2_with (go_at_call 54; refine hcon.mono ?_; rintro e w' ⟨rfl, q, rfl⟩)
    go_ret
    exact ⟨by rw [← A.out, if_pos True.intro]; rfl, q, #[], (grow_nil _).symm⟩
  · have hl2 : ¬ (n : Int) = (m : Int) := by omega
    go_wp2
    go_ret
    exact ⟨by rw [← A.out, if_neg hl]; rfl, 0, #[], (grow_nil _).symm⟩
end Go.Proofs
