/- Contracts. -/
import Derived.Test.YtkcbgpilfegofaaF18
import Derived.Test.YtkcbgpilfegofaaGvDrawB
set_option linter.unusedVariables false
set_option linter.unusedSimpArgs false
namespace Go.Proofs.Ytkcbgpilfegofaa
open Go Go.RowKit Go.Gv Go.Fl

abbrev FAR : Int := 1048576
def good (s r : Sg) (k : Nat) : Bool := (stepR (k : Int) s r).2.2 && decide (cost (k : Int) + fe 1048576 (stepR (k : Int) s r).1 (stepR (k : Int) s r).2.1 = fe 1048576 s r)
def exN : Nat → Sg → Sg → List Int
  | 0, _, _ => []
  | n + 1, s, r => if s = [] ∧ r = [] then [] else match (List.range 6).find? (good s r) with
    | some k => (k : Int) :: exN n (stepR (k : Int) s r).1 (stepR (k : Int) s r).2.1
    | none => []
def ex (s r : Sg) : List Int := exN (s.length + r.length) s r
theorem good_dec {s r : Sg} {k : Nat} (h : good s r k = true) : (stepR (k : Int) s r).1.length + (stepR (k : Int) s r).2.1.length < s.length + r.length := by
  unfold good at h
  rw [Bool.and_eq_true] at h
  exact stepR_dec h.1
theorem exN_stable : ∀ (L n m : Nat) (s r : Sg), s.length + r.length ≤ L → s.length + r.length ≤ n → s.length + r.length ≤ m → exN n s r = exN m s r := by
  have zero : ∀ (n : Nat) (s r : Sg), s = [] ∧ r = [] → exN n s r = [] := by
    intro n s r h
    cases n with
    | zero => rfl
    | succ n => rw [exN, if_pos h]
  intro L
  induction L with
  | zero =>
    intro n m s r hL _ _
    have h0 : s = [] ∧ r = [] := ⟨List.eq_nil_of_length_eq_zero (by omega), List.eq_nil_of_length_eq_zero (by omega)⟩
    rw [zero n s r h0, zero m s r h0]
  | succ L ih =>
    intro n m s r hL hn hm
    by_cases h0 : s = [] ∧ r = []
    · rw [zero n s r h0, zero m s r h0]
    · have hp : 0 < s.length + r.length := by
        rcases Nat.eq_zero_or_pos (s.length + r.length) with h | h
        · exact absurd ⟨List.eq_nil_of_length_eq_zero (by omega), List.eq_nil_of_length_eq_zero (by omega)⟩ h0
        · exact h
      obtain ⟨n, rfl⟩ : ∃ j, n = j + 1 := ⟨n - 1, by omega⟩
      obtain ⟨m, rfl⟩ : ∃ j, m = j + 1 := ⟨m - 1, by omega⟩
      rw [exN, exN, if_neg h0, if_neg h0]
      cases hf : (List.range 6).find? (good s r) with
      | none => rfl
      | some k =>
        have := good_dec (List.find?_some hf)
        simp only
        rw [ih n m _ _ (by omega) (by omega) (by omega)]
theorem ex_end : ex [] [] = [] := rfl
theorem ex_step {s r : Sg} {k : Nat} (h : ¬ (s = [] ∧ r = [])) (hk : k < 6) (hg : good s r k = true) (hno : ∀ j, j < k → good s r j = false) : ex s r = (k : Int) :: ex (stepR (k : Int) s r).1 (stepR (k : Int) s r).2.1 := by
  have hd := good_dec hg
  unfold ex
  obtain ⟨n, hn⟩ : ∃ j, s.length + r.length = j + 1 := ⟨s.length + r.length - 1, by omega⟩
  have hf : (List.range 6).find? (good s r) = some k := by
    rw [List.find?_range_eq_some]
    exact ⟨hg, by simpa using hk, fun j hj => by simp [hno j hj]⟩
  rw [hn, exN, if_neg h, hf]
  simp only
  rw [exN_stable (s.length + r.length) n _ _ _ (by omega) (by omega) (Nat.le_refl _)]
theorem feA_good {s r : Sg} : ∀ k : Nat, k ≤ 6 → (∀ j : Nat, j < k → (stepR (j : Int) s r).2.2 = true → cost (j : Int) + fe 1048576 (stepR (j : Int) s r).1 (stepR (j : Int) s r).2.1 ≠ feA 1048576 k s r) → feA 1048576 k s r = start0 1048576 s r
  | 0, _, _ => rfl
  | k + 1, hk, h => by
    rw [feA_succ (by omega)] at h ⊢
    unfold stepMin at h ⊢
    by_cases hs : (stepR (k : Int) s r).2.2 = true
    · rw [if_pos hs] at h ⊢
      have h1 := h k (by omega) hs
      have hm : min (feA 1048576 k s r) (cost (k : Int) + fe 1048576 (stepR (k : Int) s r).1 (stepR (k : Int) s r).2.1) = feA 1048576 k s r := by omega
      rw [hm] at h ⊢
      exact feA_good k (by omega) (fun j hj hjs => h j (by omega) hjs)
    · rw [if_neg hs] at h ⊢
      exact feA_good k (by omega) (fun j hj hjs => h j (by omega) hjs)
theorem fe_good {s r : Sg} (h : ¬ (s = [] ∧ r = [])) (hf : fe 1048576 s r < 1048576) (hno : ∀ j : Nat, j < 6 → good s r j = false) : False := by
  have h6 := fe_six (F := 1048576) s r
  have := feA_good (s := s) (r := r) 6 (Nat.le_refl _) (fun j hj hs he => by
    have hg := hno j hj
    unfold good at hg
    rw [hs, Bool.true_and, decide_eq_false_iff_not] at hg
    exact hg (by rw [he, h6]))
  rw [h6, start0, if_neg h] at this
  omega
theorem good_of {s r a b : Sg} {k : Nat} (hst : stepR (k : Int) s r = (a, b, true)) (he : cost (k : Int) + fe 1048576 a b = fe 1048576 s r) : good s r k = true := by
  unfold good; rw [hst]; simp [he]
theorem good_not {s r a b : Sg} {k : Nat} (hst : stepR (k : Int) s r = (a, b, true)) (he : ¬ cost (k : Int) + fe 1048576 a b = fe 1048576 s r) : good s r k = false := by
  unfold good; rw [hst]; simp [he]
theorem good_no {s r : Sg} {k : Nat} (h : (stepR (k : Int) s r).2.2 = false) : good s r k = false := by
  unfold good; rw [h, Bool.false_and]
def exL (s r : Sg) : List Int := if (errs s r).2 = 0 then ex s r else []
theorem Marks.below {B : Nat} {D : List Deferred} {w w' wl : World} (h : Marks B D w) (h0 : Marks B D wl) (hB : Below wl.heap.size w w') : Marks B D w' := by
  obtain ⟨ds, h1, h2, h3⟩ := h
  obtain ⟨ds0, h4, _, h5⟩ := h0
  refine ⟨ds, h1, h2, fun d hd => ⟨(h3 d hd).1, (hB.block d ?_).trans (h3 d hd).2⟩⟩
  have hm : marked d ∈ ds0.map marked := by rw [← h4, h1]; exact List.mem_map.2 ⟨d, hd, rfl⟩
  obtain ⟨d', hd', he⟩ := List.mem_map.1 hm
  have : d' = d := by
    have := congrArg (fun x : Deferred => x.target) he
    simpa [marked] using this
  subst this
  exact heap_lt (h5 d' hd').2
structure EJ (w0 : World) (m b8 b9 b10 b11 bx : Nat) (D : List Deferred) (s r : Sg) (ys : List Int) (oa : Option Addr) (oc : Nat) (Lp : World → LoopState → Option Code → Prop) (k : Nat) (w : World) : Prop where
  mem : ∃ es clock, MapAt w m es clock ∧ Memo es
  c8 : Blk w b8 [.map (some m)]
  c9 : Blk w b9 [vstr s, vstr r]
  c10 : Blk w b10 [.slice oa ys.length oc]
  own : w.ownsRow (b10 + 1) 3 1 (.slice oa ys.length oc) ys.length (ys.map vint)
  c11 : Blk w b11 [vint (fe 1048576 s r)]
  cx : Blk w bx [vstr s, vstr r]
  lp : Lp w .ready none
  mks : Marks w0.heap.size D w
  b0 : Below w0.heap.size w0 w
  no : ∀ j, j < k → good s r j = false
structure EE (w0 : World) (m b8 b9 b10 : Nat) (D : List Deferred) (s r : Sg) (ys : List Int) (Lp : World → LoopState → Option Code → Prop) (k : Nat) (oa : Option Addr) (oc : Nat) (w : World) : Prop where
  mem : ∃ es clock, MapAt w m es clock ∧ Memo es
  c8 : Blk w b8 [.map (some m)]
  c9 : Blk w b9 [vstr (s.drop (ofK (k : Int) s).1.length), vstr (r.drop (ofK (k : Int) s).2.length)]
  c10 : Blk w b10 [.slice oa (ys ++ [(k : Int)]).length oc]
  own : w.ownsRow (b10 + 1) 3 1 (.slice oa (ys ++ [(k : Int)]).length oc) (ys ++ [(k : Int)]).length ((ys ++ [(k : Int)]).map vint)
  lp : Lp w .done (some (.exit 2))
  mks : Marks w0.heap.size D w
  b0 : Below w0.heap.size w0 w
  kl : k < 6
  gd : good s r k = true
  no : ∀ j, j < k → good s r j = false
  st : stepR (k : Int) s r = (s.drop (ofK (k : Int) s).1.length, r.drop (ofK (k : Int) s).2.length, true)
theorem EJ.below {w0 wl : World} {m b8 b9 b10 b11 bx : Nat} {D : List Deferred} {s r : Sg} {ys : List Int} {oa : Option Addr} {oc : Nat} {Lp : World → LoopState → Option Code → Prop} {k : Nat} {w w' : World} (h : EJ w0 m b8 b9 b10 b11 bx D s r ys oa oc Lp k w) (hB : Below wl.heap.size w w')
    (hm : m < wl.heap.size) (h8 : b8 < wl.heap.size) (h9 : b9 < wl.heap.size) (h10 : b10 < wl.heap.size) (h11 : b11 < wl.heap.size) (hx : bx < wl.heap.size) (h0 : w0.heap.size ≤ wl.heap.size) (hol : ∀ g, (Value.slice oa ys.length oc).ownBlock = some g → g < wl.heap.size) (hmk : Marks w0.heap.size D wl)
    (hL : ∀ w1 w2, Below wl.heap.size w1 w2 → Lp w1 .ready none → Lp w2 .ready none) : EJ w0 m b8 b9 b10 b11 bx D s r ys oa oc Lp k w' := by
  obtain ⟨⟨es, clock, hM, hMe⟩, c8, c9, c10, own, c11, cx, lp, mk, b0, no⟩ := h
  exact ⟨⟨es, clock, hM.keep (hB.block m hm), hMe⟩, c8.keep (hB.block _ h8), c9.keep (hB.block _ h9), c10.keep (hB.block _ h10), own_keepB own (fun g hg => hB.block g (hol g hg)), c11.keep (hB.block _ h11), cx.keep (hB.block _ hx), hL _ _ hB lp, Marks.below mk hmk hB, b0.trans (hB.mono h0), no⟩
theorem no_succ {s r : Sg} {k : Nat} (h : ∀ j, j < k → good s r j = false) (hk : good s r k = false) : ∀ j, j < k + 1 → good s r j = false := fun j hj => by
  rcases Nat.lt_succ_iff_lt_or_eq.1 hj with h1 | h1
  · exact h j h1
  · subst h1; exact hk
theorem EJ.skip {w0 : World} {m b8 b9 b10 b11 bx : Nat} {D : List Deferred} {s r : Sg} {ys : List Int} {oa : Option Addr} {oc : Nat} {Lp : World → LoopState → Option Code → Prop} {k : Nat} {w : World} (h : EJ w0 m b8 b9 b10 b11 bx D s r ys oa oc Lp k w) (hno : (stepR (k : Int) s r).2.2 = false) : EJ w0 m b8 b9 b10 b11 bx D s r ys oa oc Lp (k + 1) w :=
  ⟨h.mem, h.c8, h.c9, h.c10, h.own, h.c11, h.cx, h.lp, h.mks, h.b0, no_succ h.no (good_no hno)⟩

theorem errs_ok {s r : Sg} (h : (errs s r).2 = 0) : signsFault s r = 0 ∧ fe 1048576 s r < 1048576 := by
  unfold errs at h
  split at h
  · rename_i h1; exact absurd h h1
  · rename_i h1
    refine ⟨by simpa using h1, ?_⟩
    split at h
    · cases h
    · omega
theorem good_lt {s r a b : Sg} {k : Nat} (h : good s r k = true) (hst : stepR (k : Int) s r = (a, b, true)) (hf : fe 1048576 s r < 1048576) : fe 1048576 a b < 1048576 := by
  unfold good at h
  rw [hst] at h
  have h1 : cost (k : Int) + fe 1048576 a b = fe 1048576 s r := by simpa using h
  have := cost_le (k : Int)
  omega
theorem fr_stepO {N : Nat} {a b c : World} {row : Option Nat} (h : Fr N a b) (h' : b.grownBy c row) (hj : ∀ k, row = some k → k < N ∨ a.heap.size ≤ k) : Fr N a c :=
  ⟨h'.os.trans h.os, h'.tape.trans h.tape, h'.output.trans h.output, Nat.le_trans h.size h'.size, fun k hk hl => (h'.block k (Nat.lt_of_lt_of_le hl h.size) (fun he => by have := hj k he.symm; omega)).trans (h.keep k hk hl)⟩
theorem own_ne_loop {w : World} {base e size n l n' : Nat} {v : Value} {xs : List Value} {s : LoopState} {p : Option Code} {f : FuncId} {en : Env} {ps : List Tmp} {x y : Code} (h : w.ownsRow base e size v n xs) (hl : LoopAt w l s p f n' en ps x y) : ∀ g : Nat, v.ownBlock = some g → g ≠ l := by
  intro g hg he
  rw [he] at hg
  obtain ⟨_, _, hl, _⟩ := hl
  rcases h.2 with ⟨rfl, _⟩ | ⟨g', cap, cur, rfl, _, hb, _⟩
  · cases hg
  · obtain rfl : g' = l := by simpa [Value.ownBlock] using hg
    rw [show w.heap[g']? = _ from hl] at hb; cases hb


theorem explain_ret (s0 r0 : Sg) (w : World) (hs : s0.length ≤ 2097152) (hr : r0.length ≤ 2097152) : Ret Try.prog 27 [vstr s0, vstr r0] w (fun v w' => ∃ ra0 rc0, v = .tuple ⟨[.slice ra0 (exL s0 r0).length rc0, vint ((errs s0 r0).2)]⟩ ∧ w'.ownsRow w.heap.size 3 1 (.slice ra0 (exL s0 r0).length rc0) (exL s0 r0).length ((exL s0 r0).map vint) ∧ Ext w w') := by
  have hB := Below.refl w.heap.size w
  have hsz : w.heap.size ≤ w.heap.size := Nat.le_refl _
  refine ret_of_runs (args := [_, _]) Try.func27 rfl (Nat.le_of_ble_eq_true rfl) (by kernel_rfl) ?_
  refine r_seq ?_
  refine r_region' ?_
  refine l_q (q_assign (v := .slice _ _ _) rfl rfl) ?_
  refine l_q (q_assign (v := .int _ _) rfl rfl) ?_
  refine l_nil ?_
  refine r_forget [(0, .string _), (1, .string _)] ⟨rfl, rfl, trivial⟩ (fun e1 => ?_)
  refine r_seq ?_
  refine r_seq ?_
  refine r_region' ?_
  refine l_q (q_move (v := .string _) rfl rfl) ?_
  refine l_q (q_move (v := .string _) rfl rfl) ?_
  refine l_o (o_call Try.call26 rfl (errors_ret s0 r0 _ (by omega) (by omega)) rfl ?_)
  rintro _ w2 ⟨rfl, hE2⟩
  replace hB := below_ext hB hE2 hsz
  replace hsz := Nat.le_trans hsz hE2.size
  refine l_q (q_move (v := .tuple _) rfl rfl) ?_
  refine l_q (q_extract (vs := [_, _]) (v := .int _ _) rfl rfl rfl) ?_
  refine l_q (q_extract (vs := [_, _]) (v := .int _ _) rfl rfl rfl) ?_
  refine l_q (q_assign (v := .int _ _) rfl rfl) ?_
  refine l_q (q_assign (v := .int _ _) rfl rfl) ?_
  refine l_nil ?_
  refine r_forget [(0, .string _), (1, .string _), (7, .int _ _)] ⟨rfl, rfl, rfl, trivial⟩ (fun e3 => ?_)
  refine r_seq ?_
  refine r_region' ?_
  refine l_q (q_move (v := .int _ _) rfl rfl) ?_
  refine l_q (q_neq rfl rfl rfl) ?_
  refine l_nil ?_
  refine r_forget [(0, .string _), (1, .string _), (7, .int _ _), (21, .bool _)] ⟨rfl, rfl, rfl, rfl, trivial⟩ (fun e4 => ?_)
  refine r_cond rfl (fun hc5 => ?_) (fun hc5 => ?_)
  · skip
    try simp only [decide_eq_true_eq, decide_eq_false_iff_not, Bool.not_eq_true', Bool.not_eq_false', Bool.not_not, Bool.not_true, Bool.not_false, Bool.not_eq_true, Bool.not_eq_false, Int.not_lt, Int.not_le, Bool.and_eq_true, Bool.or_eq_true, Bool.and_eq_false_iff, Bool.or_eq_false_iff] at hc5
    have he := hc5
    refine r_seq ?_
    refine r_region' ?_
    refine l_q (q_move (v := .int _ _) rfl rfl) ?_
    refine l_q (q_assign (v := .slice _ _ _) rfl rfl) ?_
    refine l_q (q_assign (v := .int _ _) rfl rfl) ?_
    refine l_nil ?_
    refine r_forget [(4, .slice _ _ _), (5, .int _ _)] ⟨rfl, rfl, trivial⟩ (fun e6 => ?_)
    refine r_ret_ (vs := [.slice _ _ _, .int _ _]) rfl Try.func27 rfl (.nil _) ⟨rfl, rfl, trivial⟩ ?_
    have hx : exL s0 r0 = [] := by rw [exL, if_neg he]
    exact ⟨none, 0, by rw [hx]; rfl, by rw [hx]; exact World.ownsRow_nil _ _ _ _, Ext.of_below hB⟩
  · skip
    try simp only [decide_eq_true_eq, decide_eq_false_iff_not, Bool.not_eq_true', Bool.not_eq_false', Bool.not_not, Bool.not_true, Bool.not_false, Bool.not_eq_true, Bool.not_eq_false, Int.not_lt, Int.not_le, Bool.and_eq_true, Bool.or_eq_true, Bool.and_eq_false_iff, Bool.or_eq_false_iff] at hc5
    have he := hc5
    obtain ⟨hsf, hfe0⟩ := errs_ok he
    have hsl4 := (sf_zero hsf).2.2.1
    have hrl4 := (sf_zero hsf).2.2.2.1
    refine r_skip ?_
    refine r_seq ?_
    refine r_region' ?_
    refine l_o (o_makeMap rfl ?_)
    intro m w7 hml hmr hM hE7
    have hbs_m : w.heap.size ≤ m := Nat.le_trans hsz hml
    have hMemo := memo_nil
    replace hB := below_ext hB hE7 hsz
    replace hsz := Nat.le_trans hsz hE7.size
    refine l_o (o_alloc Try.zeroValue90 rfl rfl ?_)
    intro b8 w8 hzl8 hzr8 _ hb8 hE8
    have hne_m_b8 : m ≠ b8 := by have := hM.lt; omega
    have hbs_b8 : w.heap.size ≤ b8 := Nat.le_trans hsz hzl8
    replace hB := below_ext hB hE8 hsz
    replace hM := hM.keep (hE8.block m hM.lt (by simp))
    replace hsz := Nat.le_trans hsz hE8.size
    refine l_o (o_store (vs := [.map (some m)]) (cs' := [.map (some m)]) Try.sizeOf90 rfl rfl rfl rfl hb8 (Nat.le_of_ble_eq_true rfl) rfl rfl ?_)
    intro w9 hz9 hb8 hG9
    replace hB := below_upd hB hG9 hsz (by omega)
    replace hsz : w.heap.size ≤ w9.heap.size := by rw [hz9]; exact hsz
    replace hM := hM.keep (hG9.block m hM.lt (by simp; omega))
    refine l_nil ?_
    refine r_forget [(0, .string _), (1, .string _), (8, .pointer _)] ⟨rfl, rfl, rfl, trivial⟩ (fun e10 => ?_)
    refine r_seq ?_
    refine r_region' ?_
    refine l_q (q_move (v := .string _) rfl rfl) ?_
    refine l_q (q_move (v := .string _) rfl rfl) ?_
    refine l_q (q_build (v := .agg ⟨[vstr s0, vstr r0]⟩) (fun w => by kernel_rfl) rfl) ?_
    refine l_o (o_alloc Try.zeroValue93 rfl rfl ?_)
    intro b11 w11 hzl11 hzr11 _ hb11 hE11
    have hne_b8_b11 : b8 ≠ b11 := by have := hb8.lt; omega
    have hne_m_b11 : m ≠ b11 := by have := hM.lt; omega
    have hbs_b11 : w.heap.size ≤ b11 := Nat.le_trans hsz hzl11
    replace hB := below_ext hB hE11 hsz
    replace hM := hM.keep (hE11.block m hM.lt (by simp))
    replace hb8 := hb8.ext hE11
    replace hsz := Nat.le_trans hsz hE11.size
    refine l_o (o_store (vs := [vstr s0, vstr r0]) (cs' := [vstr s0, vstr r0]) Try.sizeOf93 rfl rfl rfl rfl hb11 (Nat.le_of_ble_eq_true rfl) rfl rfl ?_)
    intro w12 hz12 hb11 hG12
    replace hB := below_upd hB hG12 hsz (by omega)
    replace hsz : w.heap.size ≤ w12.heap.size := by rw [hz12]; exact hsz
    replace hM := hM.keep (hG12.block m hM.lt (by simp; omega))
    replace hb8 := hb8.upd hG12 (by omega)
    refine l_nil ?_
    refine r_forget [(8, .pointer _), (9, .pointer _)] ⟨rfl, rfl, trivial⟩ (fun e13 => ?_)
    refine r_seq ?_
    refine r_region' ?_
    refine l_o (o_alloc Try.zeroValue25 rfl rfl ?_)
    intro b14 w14 hzl14 hzr14 _ hb14 hE14
    have hne_b8_b14 : b8 ≠ b14 := by have := hb8.lt; omega
    have hne_b11_b14 : b11 ≠ b14 := by have := hb11.lt; omega
    have hne_m_b14 : m ≠ b14 := by have := hM.lt; omega
    have hbs_b14 : w.heap.size ≤ b14 := Nat.le_trans hsz hzl14
    replace hB := below_ext hB hE14 hsz
    replace hM := hM.keep (hE14.block m hM.lt (by simp))
    replace hb8 := hb8.ext hE14
    replace hb11 := hb11.ext hE14
    replace hsz := Nat.le_trans hsz hE14.size
    refine l_nil ?_
    refine r_seq ?_
    refine r_block ?_
    have hmk := Marks.nil w.heap.size w14
    refine r_roundsD (α := Sg × Sg × (List Int) × (Option Addr) × Nat) (fun ⟨s, r, ys, oa, oc⟩ e D wl => Knows e [(8, ptr b8 0), (9, ptr b11 0), (10, ptr b14 0)] ∧ (s.length + r.length ≤ 80) ∧ (ys.length + (s.length + r.length) ≤ 80) ∧ (∀ x ∈ r, x ≠ 33) ∧ (fe 1048576 s r < 1048576) ∧ (ex s0 r0 = ys ++ ex s r) ∧ (Blk wl b8 [.map (some m)]) ∧ (Blk wl b11 [vstr s, vstr r]) ∧ (Blk wl b14 [.slice oa ys.length oc]) ∧ (wl.ownsRow (b14 + 1) 3 1 (.slice oa ys.length oc) ys.length (ys.map vint)) ∧ (∃ es clock, MapAt wl m es clock ∧ Memo es) ∧ (Marks w.heap.size D wl) ∧ (w.heap.size ≤ wl.heap.size) ∧ (Below w.heap.size w wl)) (fun ⟨s, r, ys, oa, oc⟩ => s.length + r.length) (s0, r0, [], none, 0) ?_ ?_
    · skip
      exact ⟨⟨rfl, rfl, rfl, trivial⟩, (by omega), (by simp only [List.length_nil]; omega), (sf_zero hsf).2.1, hfe0, rfl, hb8, hb11, hb14, (World.ownsRow_nil _ _ _ _), ⟨_, _, hM, hMemo⟩, hmk, hsz, hB⟩
    · skip
      rintro ⟨s, r, ys, oa, oc⟩ el15 D wl15 ⟨hkn, hsl, hyl, h33, hfe, hex, hc8, hc9, hc10, ho, hM, hmk, hsz, hB⟩ ih15
      obtain ⟨e15, rfl⟩ := knows_env hkn
      obtain ⟨es, clock, hM, hMemo⟩ := hM
      have hlt10 := hc10.lt
      refine r_seq ?_
      refine r_seq ?_
      refine r_region' ?_
      refine l_q (q_load_agg (n := 2) Try.isAgg93 Try.sizeOf93 rfl ((hc9.cells' (cs' := [_, _]) 0 2 rfl)) rfl rfl) ?_
      refine l_q (q_build (v := .agg ⟨[vstr [], vstr []]⟩) (fun w => by kernel_rfl) rfl) ?_
      refine l_q (q_neq_pair Try.underlying93 ⟨by decide, rfl, rfl⟩ ⟨by decide, rfl, rfl⟩ Try.underlying9 Try.isAgg9 (by kernel_rfl) (by kernel_rfl) rfl rfl rfl) ?_
      refine l_nil ?_
      refine r_forget [(8, .pointer _), (9, .pointer _), (10, .pointer _), (29, .bool _)] ⟨rfl, rfl, rfl, rfl, trivial⟩ (fun e16 => ?_)
      refine r_cond rfl (fun hc17 => ?_) (fun hc17 => ?_)
      · skip
        try simp only [decide_eq_true_eq, decide_eq_false_iff_not, Bool.not_eq_true', Bool.not_eq_false', Bool.not_not, Bool.not_true, Bool.not_false, Bool.not_eq_true, Bool.not_eq_false, Int.not_lt, Int.not_le, Bool.and_eq_true, Bool.or_eq_true, Bool.and_eq_false_iff, Bool.or_eq_false_iff] at hc17
        have hne : ¬ (s = [] ∧ r = []) := fun h => by simp [h.1, h.2] at hc17
        refine r_skip ?_
        refine r_block ?_
        refine r_seq ?_
        refine r_region' ?_
        refine l_q (q_load Try.isAgg90 rfl ((hc8.has (o := 0) rfl)) rfl) ?_
        refine l_q (q_load_agg (n := 2) Try.isAgg93 Try.sizeOf93 rfl ((hc9.cells' (cs' := [_, _]) 0 2 rfl)) rfl rfl) ?_
        refine l_o (o_call Try.call59 rfl (fewest_ret _ s r _ m _ _ (Nat.le_refl _) (by omega) (by omega) h33 hM hMemo) rfl ?_)
        rintro _ w18 ⟨rfl, esc18, ckc18, hMc18, hMm18, hGc18⟩
        replace hB := below_upd_any hB hGc18 hbs_m hsz
        replace hsz : w.heap.size ≤ w18.heap.size := Nat.le_trans hsz hGc18.size
        replace hmk := (by first | exact hmk.upd hGc18 (by assumption) | exact hmk.updM hGc18 (by assumption) | exact hmk.updL hGc18 ((hLp _ _ _).1 (by assumption)))
        replace hc8 := hc8.upd hGc18 (by omega)
        replace hc9 := hc9.upd hGc18 (by omega)
        replace hc10 := hc10.upd hGc18 (by omega)
        replace ho := own_updne ho hGc18 (by first | assumption | (intro g hg; have := (ho.lt g hg).1; omega))
        have hM := hMc18
        have hMemo := hMm18
        refine l_o (o_alloc Try.zeroValue3 rfl rfl ?_)
        intro b19 w19 hzl19 hzr19 _ hb19 hE19
        have hne_b8_b19 : b8 ≠ b19 := by have := hc8.lt; omega
        have hne_b11_b19 : b11 ≠ b19 := by have := hc9.lt; omega
        have hne_b14_b19 : b14 ≠ b19 := by have := hc10.lt; omega
        have hne_m_b19 : m ≠ b19 := by have := hM.lt; omega
        have hno_ho_b19 : ∀ g, (Value.slice oa ys.length oc).ownBlock = some g → g ≠ b19 := fun g hg => by have := (ho.lt g hg).2; omega
        have hbs_b19 : w.heap.size ≤ b19 := Nat.le_trans hsz hzl19
        replace hB := below_ext hB hE19 hsz
        replace hmk := hmk.ext hE19
        replace hc8 := hc8.ext hE19
        replace hc9 := hc9.ext hE19
        replace hc10 := hc10.ext hE19
        replace ho := own_ext ho hE19
        replace hM := hM.keep (hE19.block m hM.lt (by simp))
        replace hsz := Nat.le_trans hsz hE19.size
        refine l_o (o_store (vs := [vint (fe 1048576 s r)]) (cs' := [vint (fe 1048576 s r)]) Try.sizeOf3 rfl rfl rfl rfl hb19 (Nat.le_of_ble_eq_true rfl) rfl rfl ?_)
        intro w20 hz20 hb19 hG20
        replace hB := below_upd hB hG20 hsz (by omega)
        replace hsz : w.heap.size ≤ w20.heap.size := by rw [hz20]; exact hsz
        replace hmk := (by first | exact hmk.upd hG20 (by assumption) | exact hmk.updM hG20 (by assumption) | exact hmk.updL hG20 ((hLp _ _ _).1 (by assumption)))
        replace hc8 := hc8.upd hG20 (by omega)
        replace hc9 := hc9.upd hG20 (by omega)
        replace hc10 := hc10.upd hG20 (by omega)
        replace ho := own_updne ho hG20 (by first | assumption | (intro g hg; have := (ho.lt g hg).1; omega))
        replace hM := hM.keep (hG20.block m hM.lt (by simp; omega))
        refine l_nil ?_
        refine r_forget [(8, .pointer _), (9, .pointer _), (10, .pointer _), (11, .pointer _)] ⟨rfl, rfl, rfl, rfl, trivial⟩ (fun e21 => ?_)
        refine r_seq ?_
        refine r_region' ?_
        refine l_q (q_load_agg (n := 2) Try.isAgg93 Try.sizeOf93 rfl ((hc9.cells' (cs' := [_, _]) 0 2 rfl)) rfl rfl) ?_
        refine l_o (o_call Try.call60 rfl (next_ret _ _ _) rfl ?_)
        rintro _ w22 ⟨bx22, rfl, hbx22, hx22, hE22⟩
        have hne_m_bx22 : m ≠ bx22 := by have := hM.lt; omega
        have hne_b8_bx22 : b8 ≠ bx22 := by have := hc8.lt; omega
        have hne_b11_bx22 : b11 ≠ bx22 := by have := hc9.lt; omega
        have hne_b14_bx22 : b14 ≠ bx22 := by have := hc10.lt; omega
        have hne_b19_bx22 : b19 ≠ bx22 := by have := hb19.lt; omega
        have hno_ho_bx22 : ∀ g, (Value.slice oa ys.length oc).ownBlock = some g → g ≠ bx22 := fun g hg => by have := (ho.lt g hg).2; omega
        have hbs_bx22 : w.heap.size ≤ bx22 := Nat.le_trans hsz hbx22
        replace hB := below_ext hB hE22 hsz
        replace hmk := hmk.ext hE22
        replace hc8 := hc8.ext hE22
        replace hc9 := hc9.ext hE22
        replace hc10 := hc10.ext hE22
        replace ho := own_ext ho hE22
        replace hM := hM.keep (hE22.block m hM.lt (by simp))
        replace hb19 := hb19.ext hE22
        replace hsz := Nat.le_trans hsz hE22.size
        refine l_nil ?_
        refine r_forget [(8, .pointer _), (9, .pointer _), (10, .pointer _), (11, .pointer _), (34, .func _ _ _)] ⟨rfl, rfl, rfl, rfl, rfl, trivial⟩ (fun e23 => ?_)
        refine r_block ?_
        refine r_rangeFunc' (fst := []) (cap := [_]) rfl rfl Try.call86 ?_
        intro l db wl Lp hLp hLk hEl hll hldb hlne hdbN hlN hdb hlp
        have hlt_b8 := hc8.lt
        have hlt_b11 := hc9.lt
        have hlt_b14 := hc10.lt
        have hlt_b19 := hb19.lt
        have hlt_bx22 := hx22.lt
        have hltm := hM.lt
        have hszl := hEl.size
        have hol : ∀ g, (Value.slice oa ys.length oc).ownBlock = some g → g < wl.heap.size := fun g hg => by have := (ho.lt g hg).2; omega
        have hno_ho_l : ∀ g, (Value.slice oa ys.length oc).ownBlock = some g → g ≠ l := fun g hg => by have := (ho.lt g hg).2; omega
        have hnd := hmk.lt hldb
        replace hB := below_ext hB hEl hsz
        replace hmk := hmk.ext hEl
        replace hc8 := hc8.ext hEl
        replace hc9 := hc9.ext hEl
        replace hc10 := hc10.ext hEl
        replace ho := own_ext ho hEl
        replace hM := hM.keep (hEl.block m hM.lt (by simp))
        replace hb19 := hb19.ext hEl
        replace hx22 := hx22.ext hEl
        replace hsz := Nat.le_trans hsz hEl.size
        have hbs_l : w.heap.size ≤ l := by omega
        have hbs_db : w.heap.size ≤ db := by omega
        replace hmk := hmk.cons hdb hbs_db hnd
        have hLJ : ∀ w1 w2, Below wl.heap.size w1 w2 → Lp w1 .ready none → Lp w2 .ready none := fun w1 w2 hB h => hLk _ _ _ _ h (hB.block l hlN)
        have hJ0 : EJ w m b8 b11 b14 b19 bx22 (marked db :: D) s r ys oa oc Lp 0 wl := ⟨⟨_, _, hM, hMemo⟩, hc8, hc9, hc10, ho, hb19, hx22, hlp, hmk, hB, fun j hj => absurd hj (Nat.not_lt_zero _)⟩
        have hmkl := hmk
        refine (next1_ret l bx22 s r (EJ w m b8 b11 b14 b19 bx22 (marked db :: D) s r ys oa oc Lp) (fun wq => ∃ k oa oc, EE w m b8 b11 b14 (marked db :: D) s r ys Lp k oa oc wq) wl (by omega) (by omega) h33 (by omega) hJ0 (fun k w1 hJ => hJ.cx) (fun k w1 w2 hJ hB => hJ.below hB (by omega) (by omega) (by omega) (by omega) (by omega) (by omega) (by omega) hol hmkl hLJ) (fun k w1 hk hJ hno => hJ.skip hno) ?_).mono ?_
        · intro k w1 hk hJ hN hstep
          refine yieldAt_of ((hLp _ _ _).1 hJ.lp) rfl (by rfl) (by kernel_rfl) ?_
          obtain ⟨⟨es1, clock1, hM, hMemo⟩, hc8, hc9, hc10, ho, hc11, hcx, hlp, hmk, hB, hno⟩ := hJ
          have hF := Fr.refl wl.heap.size w1
          have hsz : w.heap.size ≤ w1.heap.size := by omega
          refine r_forget [(8, ptr b8 0), (9, ptr b11 0), (10, ptr b14 0), (11, ptr b19 0), (35, .agg ⟨[vint (k : Int), vint (cost (k : Int)), .func (.func (108 + k)) ⟨[]⟩ ⟨[]⟩]⟩), (36, .agg ⟨[vstr (s.drop (ofK (k : Int) s).1.length), vstr (r.drop (ofK (k : Int) s).2.length)]⟩)] ⟨rfl, rfl, rfl, rfl, rfl, rfl, trivial⟩ (fun e24 => ?_)
          refine r_seq ?_
          refine r_region' ?_
          refine l_o (o_alloc Try.zeroValue99 rfl rfl ?_)
          intro b25 w25 hzl25 hzr25 _ hb25 hE25
          have hne_b8_b25 : b8 ≠ b25 := by have := hc8.lt; omega
          have hne_b11_b25 : b11 ≠ b25 := by have := hc9.lt; omega
          have hne_b14_b25 : b14 ≠ b25 := by have := hc10.lt; omega
          have hne_b19_b25 : b19 ≠ b25 := by have := hc11.lt; omega
          have hne_bx22_b25 : bx22 ≠ b25 := by have := hcx.lt; omega
          have hne_m_b25 : m ≠ b25 := by have := hM.lt; omega
          have hno_ho_b25 : ∀ g, (Value.slice oa ys.length oc).ownBlock = some g → g ≠ b25 := fun g hg => by have := (ho.lt g hg).2; omega
          have hbs_b25 : w.heap.size ≤ b25 := Nat.le_trans hsz hzl25
          replace hB := below_ext hB hE25 hsz
          replace hc8 := hc8.ext hE25
          replace hc9 := hc9.ext hE25
          replace hc10 := hc10.ext hE25
          replace hc11 := hc11.ext hE25
          replace hcx := hcx.ext hE25
          replace hM := hM.keep (hE25.block m hM.lt (by simp))
          replace hlp := hLk _ _ _ _ hlp (hE25.block l (((hLp _ _ _).1 hlp).lt) (by simp))
          replace hmk := hmk.ext hE25
          replace hF := hF.trans (Fr.of_ext hE25)
          replace ho := own_ext ho hE25
          replace hsz := Nat.le_trans hsz hE25.size
          refine l_o (o_store (vs := [vint (k : Int), vint (cost (k : Int)), .func (.func (108 + k)) ⟨[]⟩ ⟨[]⟩]) (cs' := [vint (k : Int), vint (cost (k : Int)), .func (.func (108 + k)) ⟨[]⟩ ⟨[]⟩]) Try.sizeOf99 rfl rfl rfl rfl hb25 (Nat.le_of_ble_eq_true rfl) rfl rfl ?_)
          intro w26 hz26 hb25 hG26
          replace hB := below_upd hB hG26 hsz (by omega)
          replace hsz : w.heap.size ≤ w26.heap.size := by rw [hz26]; exact hsz
          replace hc8 := hc8.upd hG26 (by omega)
          replace hc9 := hc9.upd hG26 (by omega)
          replace hc10 := hc10.upd hG26 (by omega)
          replace hc11 := hc11.upd hG26 (by omega)
          replace hcx := hcx.upd hG26 (by omega)
          replace hM := hM.keep (hG26.block m hM.lt (by simp; omega))
          replace hlp := hLk _ _ _ _ hlp (hG26.block l (((hLp _ _ _).1 hlp).lt) (by simp; omega))
          replace hmk := (by first | exact hmk.upd hG26 (by assumption) | exact hmk.updM hG26 (by assumption) | exact hmk.updL hG26 ((hLp _ _ _).1 (by assumption)))
          replace hF := Fr.step hF hG26 (by omega)
          replace ho := own_updne ho hG26 (by first | assumption | (intro g hg; have := (ho.lt g hg).1; omega))
          refine l_nil ?_
          refine r_forget [(8, .pointer _), (9, .pointer _), (10, .pointer _), (11, .pointer _), (12, .pointer _), (36, .agg _)] ⟨rfl, rfl, rfl, rfl, rfl, rfl, trivial⟩ (fun e27 => ?_)
          refine r_region' ?_
          refine l_o (o_alloc Try.zeroValue93 rfl rfl ?_)
          intro b28 w28 hzl28 hzr28 _ hb28 hE28
          have hne_b8_b28 : b8 ≠ b28 := by have := hc8.lt; omega
          have hne_b11_b28 : b11 ≠ b28 := by have := hc9.lt; omega
          have hne_b14_b28 : b14 ≠ b28 := by have := hc10.lt; omega
          have hne_b19_b28 : b19 ≠ b28 := by have := hc11.lt; omega
          have hne_bx22_b28 : bx22 ≠ b28 := by have := hcx.lt; omega
          have hne_b25_b28 : b25 ≠ b28 := by have := hb25.lt; omega
          have hne_m_b28 : m ≠ b28 := by have := hM.lt; omega
          have hno_ho_b28 : ∀ g, (Value.slice oa ys.length oc).ownBlock = some g → g ≠ b28 := fun g hg => by have := (ho.lt g hg).2; omega
          have hbs_b28 : w.heap.size ≤ b28 := Nat.le_trans hsz hzl28
          replace hB := below_ext hB hE28 hsz
          replace hc8 := hc8.ext hE28
          replace hc9 := hc9.ext hE28
          replace hc10 := hc10.ext hE28
          replace hc11 := hc11.ext hE28
          replace hcx := hcx.ext hE28
          replace hM := hM.keep (hE28.block m hM.lt (by simp))
          replace hlp := hLk _ _ _ _ hlp (hE28.block l (((hLp _ _ _).1 hlp).lt) (by simp))
          replace hmk := hmk.ext hE28
          replace hF := hF.trans (Fr.of_ext hE28)
          replace ho := own_ext ho hE28
          replace hb25 := hb25.ext hE28
          replace hsz := Nat.le_trans hsz hE28.size
          refine l_o (o_store (vs := [vstr (s.drop (ofK (k : Int) s).1.length), vstr (r.drop (ofK (k : Int) s).2.length)]) (cs' := [vstr (s.drop (ofK (k : Int) s).1.length), vstr (r.drop (ofK (k : Int) s).2.length)]) Try.sizeOf93 rfl rfl rfl rfl hb28 (Nat.le_of_ble_eq_true rfl) rfl rfl ?_)
          intro w29 hz29 hb28 hG29
          replace hB := below_upd hB hG29 hsz (by omega)
          replace hsz : w.heap.size ≤ w29.heap.size := by rw [hz29]; exact hsz
          replace hc8 := hc8.upd hG29 (by omega)
          replace hc9 := hc9.upd hG29 (by omega)
          replace hc10 := hc10.upd hG29 (by omega)
          replace hc11 := hc11.upd hG29 (by omega)
          replace hcx := hcx.upd hG29 (by omega)
          replace hM := hM.keep (hG29.block m hM.lt (by simp; omega))
          replace hlp := hLk _ _ _ _ hlp (hG29.block l (((hLp _ _ _).1 hlp).lt) (by simp; omega))
          replace hmk := (by first | exact hmk.upd hG29 (by assumption) | exact hmk.updM hG29 (by assumption) | exact hmk.updL hG29 ((hLp _ _ _).1 (by assumption)))
          replace hF := Fr.step hF hG29 (by omega)
          replace ho := own_updne ho hG29 (by first | assumption | (intro g hg; have := (ho.lt g hg).1; omega))
          replace hb25 := hb25.upd hG29 (by omega)
          refine l_nil ?_
          refine r_forget [(8, .pointer _), (9, .pointer _), (10, .pointer _), (11, .pointer _), (12, .pointer _), (13, .pointer _)] ⟨rfl, rfl, rfl, rfl, rfl, rfl, trivial⟩ (fun e30 => ?_)
          refine r_begin rfl ((hLp _ _ _).1 hlp) ?_
          intro wb31 hzb31 hgb31 hl31
          replace hB := below_upd hB hgb31 hsz hbs_l
          replace hsz : w.heap.size ≤ wb31.heap.size := by rw [hzb31]; exact hsz
          replace hc8 := hc8.upd hgb31 (by omega)
          replace hc9 := hc9.upd hgb31 (by omega)
          replace hc10 := hc10.upd hgb31 (by omega)
          replace hc11 := hc11.upd hgb31 (by omega)
          replace hcx := hcx.upd hgb31 (by omega)
          replace hM := hM.keep (hgb31.block m hM.lt (by simp; omega))
          replace hmk := (by first | exact hmk.upd hgb31 (by assumption) | exact hmk.updM hgb31 (by assumption) | exact hmk.updL hgb31 ((hLp _ _ _).1 (by assumption)))
          replace hF := Fr.step hF hgb31 (by omega)
          replace ho := own_updne ho hgb31 (by first | assumption | (intro g hg; have := (ho.lt g hg).1; omega))
          replace hb25 := hb25.upd hgb31 (by omega)
          replace hb28 := hb28.upd hgb31 (by omega)
          have hlp := (hLp _ _ _).2 hl31
          refine r_block ?_
          refine r_seq ?_
          refine r_draw (gm_refl m) (gm_trans m) [0, 1, 2, 3, 6, 4, 5, 7] [4] 2 (by kernel_rfl) (by kernel_rfl) ?_
          intro w32 _ hE32
          replace hB := below_ext hB hE32 hsz
          replace hc8 := hc8.ext hE32
          replace hc9 := hc9.ext hE32
          replace hc10 := hc10.ext hE32
          replace hc11 := hc11.ext hE32
          replace hcx := hcx.ext hE32
          replace hM := hM.keep (hE32.block m hM.lt (by simp))
          replace hmk := hmk.ext hE32
          replace hF := hF.trans (Fr.of_ext hE32)
          replace ho := own_ext ho hE32
          replace hb25 := hb25.ext hE32
          replace hb28 := hb28.ext hE32
          replace hlp := hLk _ _ _ _ hlp (hE32.block l (((hLp _ _ _).1 hlp).lt) (by simp))
          replace hsz := Nat.le_trans hsz hE32.size
          refine m_q rfl rfl (fun w' hC' => q_fieldAddr (o' := 1) rfl fld99_1 rfl) ?_
          refine m_q rfl rfl (fun w' hC' => q_load Try.isAgg3 rfl (((hb25.step hC' (by simp; omega)).has (o := 1) rfl)) rfl) ?_
          refine m_q rfl rfl (fun w' hC' => q_load Try.isAgg90 rfl (((hc8.step hC' (by simp; omega)).has (o := 0) rfl)) rfl) ?_
          refine m_q rfl rfl (fun w' hC' => q_load_agg (n := 2) Try.isAgg93 Try.sizeOf93 rfl (((hb28.step hC' (by simp; omega)).cells' (cs' := [_, _]) 0 2 rfl)) rfl rfl) ?_
          refine m_q rfl rfl (fun w' hC' => q_load Try.isAgg3 rfl (((hc11.step hC' (by simp; omega)).has (o := 0) rfl)) rfl) ?_
          refine m_o rfl rfl (o_call Try.call59 rfl (fewest_ret _ (s.drop (ofK (k : Int) s).1.length) (r.drop (ofK (k : Int) s).2.length) _ m _ _ (Nat.le_refl _) (by rw [List.length_drop]; omega) (by rw [List.length_drop]; omega) (fun x hx => h33 x (List.mem_of_mem_drop hx)) hM hMemo) rfl ?_)
          rintro _ w33 ⟨rfl, esc33, ckc33, hMc33, hMm33, hGc33⟩
          refine ⟨hGc33, ?_⟩
          replace hB := below_upd_any hB hGc33 hbs_m hsz
          replace hsz : w.heap.size ≤ w33.heap.size := Nat.le_trans hsz hGc33.size
          replace hc8 := hc8.upd hGc33 (by omega)
          replace hc9 := hc9.upd hGc33 (by omega)
          replace hc10 := hc10.upd hGc33 (by omega)
          replace hc11 := hc11.upd hGc33 (by omega)
          replace hcx := hcx.upd hGc33 (by omega)
          replace hmk := (by first | exact hmk.upd hGc33 (by assumption) | exact hmk.updM hGc33 (by assumption) | exact hmk.updL hGc33 ((hLp _ _ _).1 (by assumption)))
          replace hF := Fr.step hF hGc33 (by omega)
          replace ho := own_updne ho hGc33 (by first | assumption | (intro g hg; have := (ho.lt g hg).1; omega))
          replace hb25 := hb25.upd hGc33 (by omega)
          replace hb28 := hb28.upd hGc33 (by omega)
          replace hlp := hLk _ _ _ _ hlp (hGc33.block l (((hLp _ _ _).1 hlp).lt) (by simp; omega))
          have hM := hMc33
          have hMemo := hMm33
          refine m_q rfl rfl (fun w' hC' => q_add rfl rfl (by have := fe_bounds (F := 1048576) (by decide) (s.drop (ofK (k : Int) s).1.length) (r.drop (ofK (k : Int) s).2.length); have := cost_le (k : Int); omega) rfl) ?_
          refine m_q rfl rfl (fun w' hC' => q_eql rfl rfl rfl) ?_
          refine m_nil ?_
          refine r_forget [(9, .pointer _), (10, .pointer _), (12, .pointer _), (13, .pointer _), (44, .bool _)] ⟨rfl, rfl, rfl, rfl, rfl, trivial⟩ (fun e34 => ?_)
          refine r_cond rfl (fun hc35 => ?_) (fun hc35 => ?_)
          · skip
            try simp only [decide_eq_true_eq, decide_eq_false_iff_not, Bool.not_eq_true', Bool.not_eq_false', Bool.not_not, Bool.not_true, Bool.not_false, Bool.not_eq_true, Bool.not_eq_false, Int.not_lt, Int.not_le, Bool.and_eq_true, Bool.or_eq_true, Bool.and_eq_false_iff, Bool.or_eq_false_iff] at hc35
            have hg := hc35
            refine r_seq ?_
            refine r_draw2 (ex := fun y x => (x == 4 || x == 6 || x == 7) && decide (y ≤ 2)) (ClsB.refl b28 [vstr (s.drop (ofK (k : Int) s).1.length), vstr (r.drop (ofK (k : Int) s).2.length)] 2) (ClsB.trans b28 [vstr (s.drop (ofK (k : Int) s).1.length), vstr (r.drop (ofK (k : Int) s).2.length)] 2) [0, 1, 2, 5, 3, 4, 6, 7] [3, 4, 6, 7] 3 (by kernel_rfl) (by kernel_rfl) ?_
            intro w36 _ hE36
            replace hB := below_ext hB hE36 hsz
            replace hc8 := hc8.ext hE36
            replace hc9 := hc9.ext hE36
            replace hc10 := hc10.ext hE36
            replace hc11 := hc11.ext hE36
            replace hcx := hcx.ext hE36
            replace hmk := hmk.ext hE36
            replace hF := hF.trans (Fr.of_ext hE36)
            replace ho := own_ext ho hE36
            replace hb25 := hb25.ext hE36
            replace hb28 := hb28.ext hE36
            replace hlp := hLk _ _ _ _ hlp (hE36.block l (((hLp _ _ _).1 hlp).lt) (by simp))
            replace hM := hM.keep (hE36.block m hM.lt (by simp))
            replace hsz := Nat.le_trans hsz hE36.size
            refine m_q2 rfl rfl (fun w' hC' => q_load Try.isAgg25 rfl (((hc10.ext (hC'.lo (by decide))).has (o := 0) rfl)) rfl) ?_
            refine m_q2 rfl rfl (fun w' hC' => q_fieldAddr (o' := 0) rfl fld99_0 rfl) ?_
            refine m_q2 rfl rfl (fun w' hC' => q_load Try.isAgg3 rfl (((hb25.ext (hC'.lo (by decide))).has (o := 0) rfl)) rfl) ?_
            refine m_q2 rfl rfl (fun w' hC' => q_load_agg (n := 2) Try.isAgg93 Try.sizeOf93 rfl (((hC'.get (by decide) hb28).cells' (cs' := [_, _]) 0 2 rfl)) rfl rfl) ?_
            have hbl_b8 := hc8.lt
            have hbl_b11 := hc9.lt
            have hbl_b14 := hc10.lt
            have hbl_b19 := hc11.lt
            have hbl_bx22 := hcx.lt
            have hbl_b25 := hb25.lt
            have hbl_b28 := hb28.lt
            refine m_o2 rfl rfl (o_buildSlice (el := 3) (cs := [vint (k : Int)]) Try.underlying25 el3 (by decide) (by kernel_rfl) rfl (by decide) rfl ?_)
            intro b37 w37 hzl37 hzr37 _ hb37 hE37 ho37
            refine ⟨(fun y _ => ClsB.ext hE37 y), ?_⟩
            have hne_b8_b37 : b8 ≠ b37 := by have := hc8.lt; omega
            have hne_b11_b37 : b11 ≠ b37 := by have := hc9.lt; omega
            have hne_b14_b37 : b14 ≠ b37 := by have := hc10.lt; omega
            have hne_b19_b37 : b19 ≠ b37 := by have := hc11.lt; omega
            have hne_bx22_b37 : bx22 ≠ b37 := by have := hcx.lt; omega
            have hne_b25_b37 : b25 ≠ b37 := by have := hb25.lt; omega
            have hne_b28_b37 : b28 ≠ b37 := by have := hb28.lt; omega
            have hne_m_b37 : m ≠ b37 := by have := hM.lt; omega
            have hno_ho_b37 : ∀ g, (Value.slice oa ys.length oc).ownBlock = some g → g ≠ b37 := fun g hg => by have := (ho.lt g hg).2; omega
            have hbs_b37 : w.heap.size ≤ b37 := Nat.le_trans hsz hzl37
            replace hB := below_ext hB hE37 hsz
            replace hc8 := hc8.ext hE37
            replace hc9 := hc9.ext hE37
            replace hc10 := hc10.ext hE37
            replace hc11 := hc11.ext hE37
            replace hcx := hcx.ext hE37
            replace hmk := hmk.ext hE37
            replace hF := hF.trans (Fr.of_ext hE37)
            replace ho := own_ext ho hE37
            replace hb25 := hb25.ext hE37
            replace hb28 := hb28.ext hE37
            replace hlp := hLk _ _ _ _ hlp (hE37.block l (((hLp _ _ _).1 hlp).lt) (by simp))
            replace hM := hM.keep (hE37.block m hM.lt (by simp))
            replace hsz := Nat.le_trans hsz hE37.size
            have hbl_b8 := hc8.lt
            have hbl_b11 := hc9.lt
            have hbl_b14 := hc10.lt
            have hbl_b19 := hc11.lt
            have hbl_bx22 := hcx.lt
            have hbl_b25 := hb25.lt
            have hbl_b28 := hb28.lt
            refine m_o2 rfl rfl (o_append_map (f := vint) (ys) ([(k : Int)]) Try.underlying25 el3 rfl rfl ho rfl (Row.of_owns ho37) (fun _ => rfl) (by (try simp only [List.length_append, List.length_cons, List.length_nil, List.length_take, List.length_drop, List.length_replicate]); omega) (by omega) rfl ?_)
            intro a38 c38 w38 hz38 ho38 hG38
            refine ⟨fun y hy => ClsB.hi (by simpa using hy) (fun h => h.step hG38 (fun he => hno_ho_b28 _ he.symm rfl)), ?_⟩
            replace hB := below_own hB hG38 ho (by omega) hsz
            replace hsz := Nat.le_trans hsz hG38.size
            replace hc8 := hc8.step hG38 (by first | exact own_ne ho (by omega) | exact (fun he => hno_ho_b8 _ he.symm rfl))
            replace hc9 := hc9.step hG38 (by first | exact own_ne ho (by omega) | exact (fun he => hno_ho_b11 _ he.symm rfl))
            replace hc10 := hc10.step hG38 (by first | exact own_ne ho (by omega) | exact (fun he => hno_ho_b14 _ he.symm rfl))
            replace hc11 := hc11.step hG38 (by first | exact own_ne ho (by omega) | exact (fun he => hno_ho_b19 _ he.symm rfl))
            replace hcx := hcx.step hG38 (by first | exact own_ne ho (by omega) | exact (fun he => hno_ho_bx22 _ he.symm rfl))
            replace hmk := hmk.own hG38 ho
            replace hF := fr_stepO hF hG38 (fun k hk => .inl (hol k hk))
            replace hb25 := hb25.step hG38 (by first | exact own_ne ho (by omega) | exact (fun he => hno_ho_b25 _ he.symm rfl))
            replace hb28 := hb28.step hG38 (by first | exact own_ne ho (by omega) | exact (fun he => hno_ho_b28 _ he.symm rfl))
            replace hlp := hLk _ _ _ _ hlp (hG38.block l (((hLp _ _ _).1 hlp).lt) (fun he => hno_ho_l _ he.symm rfl))
            replace hM := hM.keep (hG38.block m hM.lt (own_ne ho (by omega)))
            refine m_o2 rfl rfl (o_store (vs := [.slice a38 ((ys ++ [(k : Int)]).length) c38]) (cs' := [.slice a38 ((ys ++ [(k : Int)]).length) c38]) Try.sizeOf25 rfl rfl rfl rfl hc10 (Nat.le_of_ble_eq_true rfl) rfl rfl ?_)
            intro w39 hz39 hc10 hG39
            refine ⟨fun y hy => ClsB.hi (by simpa using hy) (fun h => h.upd hG39 (by omega)), ?_⟩
            replace hB := below_upd hB hG39 hsz (by omega)
            replace hsz : w.heap.size ≤ w39.heap.size := by rw [hz39]; exact hsz
            replace hc8 := hc8.upd hG39 (by omega)
            replace hc9 := hc9.upd hG39 (by omega)
            replace hc11 := hc11.upd hG39 (by omega)
            replace hcx := hcx.upd hG39 (by omega)
            replace hmk := (by first | exact hmk.upd hG39 (by assumption) | exact hmk.updM hG39 (by assumption) | exact hmk.updL hG39 ((hLp _ _ _).1 (by assumption)))
            replace hF := Fr.step hF hG39 (by omega)
            replace hb25 := hb25.upd hG39 (by omega)
            replace hb28 := hb28.upd hG39 (by omega)
            replace hlp := hLk _ _ _ _ hlp (hG39.block l (((hLp _ _ _).1 hlp).lt) (by simp; omega))
            replace hM := hM.keep (hG39.block m hM.lt (by simp; omega))
            replace ho38 := own_updne ho38 hG39 (by first | assumption | (intro g hg; have := (ho38.lt g hg).1; omega))
            refine m_o2 rfl rfl (o_store (vs := [vstr (s.drop (ofK (k : Int) s).1.length), vstr (r.drop (ofK (k : Int) s).2.length)]) (cs' := [vstr (s.drop (ofK (k : Int) s).1.length), vstr (r.drop (ofK (k : Int) s).2.length)]) Try.sizeOf93 rfl rfl rfl rfl hc9 (Nat.le_of_ble_eq_true rfl) rfl rfl ?_)
            intro w40 hz40 hc9 hG40
            refine ⟨fun y hy => ClsB.hi (by simpa using hy) (fun h => h.upd hG40 (by omega)), ?_⟩
            replace hB := below_upd hB hG40 hsz (by omega)
            replace hsz : w.heap.size ≤ w40.heap.size := by rw [hz40]; exact hsz
            replace hc8 := hc8.upd hG40 (by omega)
            replace hc10 := hc10.upd hG40 (by omega)
            replace hc11 := hc11.upd hG40 (by omega)
            replace hcx := hcx.upd hG40 (by omega)
            replace hmk := (by first | exact hmk.upd hG40 (by assumption) | exact hmk.updM hG40 (by assumption) | exact hmk.updL hG40 ((hLp _ _ _).1 (by assumption)))
            replace hF := Fr.step hF hG40 (by omega)
            replace hb25 := hb25.upd hG40 (by omega)
            replace hb28 := hb28.upd hG40 (by omega)
            replace hlp := hLk _ _ _ _ hlp (hG40.block l (((hLp _ _ _).1 hlp).lt) (by simp; omega))
            replace hM := hM.keep (hG40.block m hM.lt (by simp; omega))
            replace ho38 := own_updne ho38 hG40 (by first | assumption | (intro g hg; have := (ho38.lt g hg).1; omega))
            refine m_nil2 ?_
            refine r_forget [] trivial (fun e41 => ?_)
            have hnl_ho38 := own_ne_loop ho38 ((hLp _ _ _).1 hlp)
            refine r_round_exit (id := 2) rfl rfl ((hLp _ _ _).1 hlp) ?_
            intro we42 hze42 hge42 hl42
            replace hB := below_upd hB hge42 hsz hbs_l
            replace hc8 := hc8.upd hge42 (by omega)
            replace hc9 := hc9.upd hge42 (by omega)
            replace hc10 := hc10.upd hge42 (by omega)
            replace hc11 := hc11.upd hge42 (by omega)
            replace hcx := hcx.upd hge42 (by omega)
            replace hmk := (by first | exact hmk.upd hge42 (by assumption) | exact hmk.updM hge42 (by assumption) | exact hmk.updL hge42 ((hLp _ _ _).1 (by assumption)))
            replace hF := Fr.step hF hge42 (by omega)
            replace hb25 := hb25.upd hge42 (by omega)
            replace hb28 := hb28.upd hge42 (by omega)
            replace hM := hM.keep (hge42.block m hM.lt (by simp; omega))
            replace ho38 := own_updne ho38 hge42 (by first | assumption | (intro g hg; have := (ho38.lt g hg).1; omega))
            have hlp := (hLp _ _ _).2 hl42
            exact ⟨false, rfl, (fun h => by cases h), fun _ => ⟨k, _, _, ⟨_, _, hM, hMemo⟩, hc8, hc9, hc10, ho38, hlp, hmk, hB, hk, good_of hstep hg, hno, hstep⟩, hF, hcx⟩
          · skip
            try simp only [decide_eq_true_eq, decide_eq_false_iff_not, Bool.not_eq_true', Bool.not_eq_false', Bool.not_not, Bool.not_true, Bool.not_false, Bool.not_eq_true, Bool.not_eq_false, Int.not_lt, Int.not_le, Bool.and_eq_true, Bool.or_eq_true, Bool.and_eq_false_iff, Bool.or_eq_false_iff] at hc35
            have hg := hc35
            refine r_skip ?_
            refine r_inBlock ?_
            have hnl_ho := own_ne_loop ho ((hLp _ _ _).1 hlp)
            refine r_round_end rfl ((hLp _ _ _).1 hlp) ?_
            intro we43 hze43 hge43 hl43
            replace hB := below_upd hB hge43 hsz hbs_l
            replace hc8 := hc8.upd hge43 (by omega)
            replace hc9 := hc9.upd hge43 (by omega)
            replace hc10 := hc10.upd hge43 (by omega)
            replace hc11 := hc11.upd hge43 (by omega)
            replace hcx := hcx.upd hge43 (by omega)
            replace hmk := (by first | exact hmk.upd hge43 (by assumption) | exact hmk.updM hge43 (by assumption) | exact hmk.updL hge43 ((hLp _ _ _).1 (by assumption)))
            replace hF := Fr.step hF hge43 (by omega)
            replace ho := own_updne ho hge43 (by first | assumption | (intro g hg; have := (ho.lt g hg).1; omega))
            replace hb25 := hb25.upd hge43 (by omega)
            replace hb28 := hb28.upd hge43 (by omega)
            replace hM := hM.keep (hge43.block m hM.lt (by simp; omega))
            have hlp := (hLp _ _ _).2 hl43
            exact ⟨true, rfl, fun _ => ⟨⟨_, _, hM, hMemo⟩, hc8, hc9, hc10, ho, hc11, hcx, hlp, hmk, hB, no_succ hno (good_not hstep hg)⟩, (fun h => by cases h), hF, hcx⟩
        · rintro _ w2 (hJ | ⟨k, oa2, oc2, hJ⟩)
          · exact (fe_good hne hfe hJ.no).elim
          obtain ⟨⟨es2, clock2, hM2, hMemo2⟩, hc8, hc9, hc10, ho, hlp, hmk, hB, hk6, hgd, hno, hstep⟩ := hJ
          have hMemo := hMemo2
          have hM := hM2
          have hdec := ofK_dec hstep
          have hex2 := ex_step hne hk6 hgd hno
          rw [hstep] at hex2
          have hfe2 : fe 1048576 (s.drop (ofK (k : Int) s).1.length) (r.drop (ofK (k : Int) s).2.length) < 1048576 := good_lt hgd hstep hfe
          refine ⟨.done, some (.exit 2), (by decide), hlp, rfl, ?_⟩
          intro w3 hz3 hg3
          have hsz2 : w.heap.size ≤ w2.heap.size := hB.size
          have hlnl : ∀ g, (Value.slice oa2 (ys ++ [(k : Int)]).length oc2).ownBlock = some g → g ≠ l := own_ne_loop ho ((hLp _ _ _).1 hlp)
          replace hB := below_upd hB hg3 hsz2 hbs_l
          have hsz : w.heap.size ≤ w3.heap.size := by rw [hz3]; exact hsz2
          replace hc8 := hc8.upd hg3 (by omega)
          replace hc9 := hc9.upd hg3 (by omega)
          replace hc10 := hc10.upd hg3 (by omega)
          replace hM := hM.keep (hg3.block m hM.lt (by simp; omega))
          replace hmk := (by first | exact hmk.upd hg3 (by assumption) | exact hmk.updM hg3 (by assumption) | exact hmk.updL hg3 ((hLp _ _ _).1 (by assumption)))
          replace ho := own_updne ho hg3 (by first | assumption | (intro g hg; have := (ho.lt g hg).1; omega))
          refine r_exit rfl ?_
          refine r_inBlock ?_
          exact ih15 (_, _, ys ++ [(k : Int)], oa2, oc2) _ _ _ ⟨⟨rfl, rfl, rfl, trivial⟩, (by omega), (by rw [List.length_append, List.length_cons, List.length_nil]; omega), (fun x hx => h33 x (List.mem_of_mem_drop hx)), hfe2, (by rw [hex, hex2, List.append_assoc]; rfl), hc8, hc9, hc10, ho, ⟨_, _, hM, hMemo⟩, hmk, hsz, hB⟩ (by exact hdec)
      · skip
        try simp only [decide_eq_true_eq, decide_eq_false_iff_not, Bool.not_eq_true', Bool.not_eq_false', Bool.not_not, Bool.not_true, Bool.not_false, Bool.not_eq_true, Bool.not_eq_false, Int.not_lt, Int.not_le, Bool.and_eq_true, Bool.or_eq_true, Bool.and_eq_false_iff, Bool.or_eq_false_iff] at hc17
        have hnil : s = [] ∧ r = [] := hc17
        refine r_exit rfl ?_
        refine r_seq ?_
        refine r_region' ?_
        refine l_q (q_load Try.isAgg25 rfl ((hc10.has (o := 0) rfl)) rfl) ?_
        refine l_q (q_assign (v := .slice _ _ _) rfl rfl) ?_
        refine l_q (q_assign (v := .int _ _) rfl rfl) ?_
        refine l_nil ?_
        refine r_forget [(4, .slice _ _ _), (5, .int _ _)] ⟨rfl, rfl, trivial⟩ (fun e44 => ?_)
        obtain ⟨wf45, hUf, hzf45, hFf45⟩ := unw_many hmk
        replace hB := below_unw hB hsz hFf45
        replace hsz : w.heap.size ≤ wf45.heap.size := by rw [hzf45]; exact hsz
        replace hc8 := hc8.unw hFf45
        replace hc9 := hc9.unw hFf45
        replace hc10 := hc10.unw hFf45
        replace ho := own_unw ho hFf45
        refine r_ret_ (vs := [.slice _ _ _, .int _ _]) rfl Try.func27 rfl (hUf) ⟨rfl, rfl, trivial⟩ ?_
        have hy : ys = exL s0 r0 := by rw [exL, if_pos he, hex, hnil.1, hnil.2, ex_end, List.append_nil]
        exact ⟨oa, oc, by rw [hy, he]; rfl, hy ▸ own_mono ho (by omega), Ext.of_below hB⟩
end Go.Proofs.Ytkcbgpilfegofaa
