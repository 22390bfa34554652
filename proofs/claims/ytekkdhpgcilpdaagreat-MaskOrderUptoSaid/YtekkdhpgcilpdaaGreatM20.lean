/- Contracts. -/
import Derived.Test.YtekkdhpgcilpdaaGreatM19
set_option linter.unusedVariables false
set_option linter.unusedSimpArgs false
namespace Go.Proofs.YtekkdhpgcilpdaaGreat
open Go Go.RowKit Go.Gv Go.Fl
/-! ### Earlier seen, later asked, never seen -/
section
variable {l x : Lg} {b b2 : Int} {r : RC} {k : Nat}
end
/-! ### Other orders -/
theorem free_iff {p : List Int} {b : Int} (hb : -1 ≤ b) : freeP p b = true ↔ ∀ q, q < p.length → p.getD q 0 = b → b = -1 := by
  unfold freeP
  rw [Bool.or_eq_true, decide_eq_true_eq, Bool.not_eq_true', ← Bool.not_eq_true, has_iff]
  constructor
  · rintro (h | h) q hq he
    · exact h
    · exact absurd (by rw [← he]; exact getD_lt hq) h
  · intro h
    by_cases h1 : b = -1
    · exact .inl h1
    · right
      intro h2
      obtain ⟨q, hq, he⟩ := List.mem_iff_getElem.1 h2
      exact h1 (h q hq (by rw [List.getD_eq_getElem?_getD, List.getElem?_eq_getElem hq]; exact he))
theorem mem_asg {can : Nat → Int → Bool} {m n : Nat} {a : List Int} : a ∈ allF can m noB n [] ↔ a.length = n ∧ ∀ r, r < n → a.getD r 0 ∈ bys m ∧ can r (a.getD r 0) = true ∧ ∀ q, q < n → q ≠ r → a.getD q 0 = a.getD r 0 → a.getD r 0 = -1 := by
  rw [mem_all]
  have e0 : ∀ r, r < a.length → (okAt can m noB a r ↔ a.getD r 0 ∈ bys m ∧ can r (a.getD r 0) = true ∧ ∀ q, q < r → a.getD q 0 = a.getD r 0 → a.getD r 0 = -1) := fun r hr => by
    rw [okAt_noB]
    refine and_congr_right fun hb => ?_
    unfold stepB
    have hl : (a.take r).length = r := by rw [List.length_take]; omega
    rw [Bool.and_eq_true, free_iff (mem_bys.1 hb).1, hl]
    refine and_congr_right fun _ => ?_
    constructor <;> intro h q hq he
    · exact h q hq (by rw [List.getD_eq_getElem?_getD, List.getElem?_take, if_pos hq, ← List.getD_eq_getElem?_getD]; exact he)
    · exact h q hq (by rw [List.getD_eq_getElem?_getD, List.getElem?_take, if_pos hq, ← List.getD_eq_getElem?_getD] at he; exact he)
  constructor
  · rintro ⟨_, h2, h3⟩
    have h2 : a.length = n := by simpa using h2
    refine ⟨h2, fun r hr => ?_⟩
    obtain ⟨g1, g2, g3⟩ := (e0 r (by omega)).1 (h3 r (Nat.zero_le _) (by omega))
    refine ⟨g1, g2, fun q hq hne he => ?_⟩
    rcases Nat.lt_or_ge q r with h | h
    · exact g3 q h he
    · rw [← he]
      exact ((e0 q (by omega)).1 (h3 q (Nat.zero_le _) (by omega))).2.2 r (by omega) he.symm
  · rintro ⟨h2, h3⟩
    refine ⟨by simp, by simpa using h2, fun r _ hr => ?_⟩
    obtain ⟨g1, g2, g3⟩ := h3 r (by omega)
    exact (e0 r hr).2 ⟨g1, g2, fun q hq he => g3 q (by omega) (by omega) he⟩
/-- assignments, with the records in another order, and the dispatches -/
theorem poss_map {can can' : Nat → Int → Bool} {m m' n r : Nat} {fal : Bool} {pi : Nat → Nat} {si : Int → Int} (hp : ∀ i, i < n → pi i < n) (hpi : ∀ i j, i < n → j < n → pi i = pi j → i = j) (hs : ∀ b ∈ bys m, si b ∈ bys m')
    (hsi : ∀ b ∈ bys m, ∀ c ∈ bys m, si b = si c → b = c) (hs1 : ∀ b ∈ bys m, si b = -1 ↔ b = -1) (hc : ∀ i b, i < n → b ∈ bys m → can (pi i) b = true → can' i (si b) = true) (hr : r < n) (h : possF can m (pi r) fal n [] = true) : possF can' m' r fal n [] = true := by
  rw [poss_any (hp r hr), List.any_eq_true] at h
  rw [poss_any hr, List.any_eq_true]
  obtain ⟨a, ha, h1⟩ := h
  obtain ⟨h2, h3⟩ := mem_asg.1 ha
  have hg : ∀ i, i < n → ((List.range n).map (fun i => si (a.getD (pi i) 0))).getD i 0 = si (a.getD (pi i) 0) := fun i hi => by
    rw [List.getD_eq_getElem?_getD, List.getElem?_map, List.getElem?_range hi]; rfl
  refine ⟨(List.range n).map (fun i => si (a.getD (pi i) 0)), mem_asg.2 ⟨by rw [List.length_map, List.length_range], fun i hi => ?_⟩, ?_⟩
  · obtain ⟨g1, g2, g3⟩ := h3 (pi i) (hp i hi)
    rw [hg i hi]
    refine ⟨hs _ g1, hc i _ hi g1 g2, fun q hq hne he => ?_⟩
    rw [hg q hq] at he
    obtain ⟨k1, _, _⟩ := h3 (pi q) (hp q hq)
    rw [hs1 _ g1]
    exact g3 (pi q) (hp q hq) (fun e => hne (hpi q i hq hi e)) (hsi _ k1 _ g1 he)
  · rw [hg r hr]
    obtain ⟨g1, _, _⟩ := h3 (pi r) (hp r hr)
    have e : decide (si (a.getD (pi r) 0) = -1) = decide (a.getD (pi r) 0 = -1) := by rw [decide_eq_decide]; exact hs1 _ g1
    rw [e]; exact h1
def rotL {α : Type} (i : Nat) (l : List α) : List α := l.drop i ++ l.take i
theorem rot_len {α : Type} {i : Nat} {l : List α} : (rotL i l).length = l.length := by unfold rotL; rw [List.length_append, List.length_drop, List.length_take]; omega
theorem rot_getD {α : Type} {i r : Nat} {l : List α} {d : α} (hi : i ≤ l.length) (hr : r < l.length) : (rotL i l).getD r d = l.getD ((r + i) % l.length) d := by
  unfold rotL
  rw [List.getD_eq_getElem?_getD, List.getD_eq_getElem?_getD, List.getElem?_append, List.length_drop]
  split
  · rename_i h
    rw [List.getElem?_drop, Nat.mod_eq_of_lt (by omega), Nat.add_comm]
  · rename_i h
    rw [List.getElem?_take, if_pos (by omega), show (r + i) % l.length = r + i - l.length by rw [Nat.mod_eq_sub_mod (by omega), Nat.mod_eq_of_lt (by omega)]]
    congr 2
    omega
theorem rot_back {α : Type} {i : Nat} {l : List α} (hi : i ≤ l.length) : rotL (l.length - i) (rotL i l) = l := by
  unfold rotL
  rw [show l.length - i = (l.drop i).length from List.length_drop.symm, List.drop_left, List.take_left, List.take_append_drop]
theorem rot_mem {α : Type} {i : Nat} {l : List α} {x : α} : x ∈ rotL i l ↔ x ∈ l := by
  unfold rotL
  rw [List.mem_append, or_comm, ← List.mem_append, List.take_append_drop]
section
variable {l : Lg} {i r : Nat} {fal : Bool}
def withJ (l : Lg) (J : List Sn) : Lg := ⟨l.co, l.er, l.se, J, l.R⟩
theorem mod_sub {m i b : Nat} (hi : i < m) (hb : b < m) : (b + m - i) % m < m ∧ ((b + m - i) % m + i) % m = b := by
  have h1 := Nat.mod_lt (b + m - i) (show 0 < m by omega)
  refine ⟨h1, ?_⟩
  rcases Nat.lt_or_ge b i with h | h
  · rw [Nat.mod_eq_of_lt (show b + m - i < m by omega), show b + m - i + i = b + m by omega, Nat.add_mod_right, Nat.mod_eq_of_lt hb]
  · rw [show b + m - i = b - i + m by omega, Nat.add_mod_right, Nat.mod_eq_of_lt (show b - i < m by omega), show b - i + i = b by omega, Nat.mod_eq_of_lt hb]
theorem rotJ_fal {q : RC} : falB (withJ l (rotL i l.J)) q = falB l q := by
  unfold falB
  rw [Bool.eq_iff_iff, List.any_eq_true, List.any_eq_true]
  have e : ∀ t, t ∈ partsL (withJ l (rotL i l.J)) q.h ↔ t ∈ partsL l q.h := fun t => by
    rw [mem_parts, mem_parts]
    constructor
    · rintro ⟨s, h1, h2⟩; exact ⟨s, rot_mem.1 h1, h2⟩
    · rintro ⟨s, h1, h2⟩; exact ⟨s, rot_mem.2 h1, h2⟩
  constructor
  · rintro ⟨t, h1, h2⟩; exact ⟨t, (e t).1 h1, h2⟩
  · rintro ⟨t, h1, h2⟩; exact ⟨t, (e t).2 h1, h2⟩
theorem rotJ_up (hi : i < l.J.length) (hr : r < l.R.length) (h : possF (canB l) l.J.length r fal l.R.length [] = true) : possF (canB (withJ l (rotL i l.J))) (rotL i l.J).length r fal l.R.length [] = true := by
  have hm : 0 < l.J.length := by omega
  have inj : ∀ b c, b < l.J.length → c < l.J.length → (b + l.J.length - i) % l.J.length = (c + l.J.length - i) % l.J.length → b = c := fun b c hb hc h => by
    rw [← (mod_sub hi hb).2, h, (mod_sub hi hc).2]
  refine poss_map (can := canB l) (m := l.J.length) (n := l.R.length) (pi := id) (si := fun b => if b = -1 then -1 else (((b.toNat + l.J.length - i) % l.J.length : Nat) : Int)) (fun _ h => h) (fun _ _ _ _ h => h) (fun b hb => ?_) (fun b hb c hc h => ?_) (fun b hb => ?_) (fun k b hk hb h => ?_) hr h
  · have h1 := mem_bys.1 hb
    rw [mem_bys, rot_len]
    split
    · omega
    · have := (mod_sub hi (show b.toNat < l.J.length by omega)).1
      omega
  · have h1 := mem_bys.1 hb
    have h2 := mem_bys.1 hc
    try dsimp only at h
    split at h <;> split at h
    · omega
    · omega
    · omega
    · have := inj b.toNat c.toNat (by omega) (by omega) (by omega)
      omega
  · split
    · rename_i h; exact ⟨fun _ => h, fun _ => rfl⟩
    · rename_i h; exact ⟨fun h2 => by omega, fun h2 => absurd h2 h⟩
  · have h1 := mem_bys.1 hb
    try dsimp only
    unfold canB at h ⊢
    split at h
    · rename_i h2; rw [if_pos h2, if_pos rfl]; rw [← h]; exact rotJ_fal
    · rename_i h2
      have h3 := mod_sub hi (show b.toNat < l.J.length by omega)
      rw [if_neg h2, if_neg (by omega), Int.toNat_natCast]
      have e : (withJ l (rotL i l.J)).J.getD ((b.toNat + l.J.length - i) % l.J.length) sn0 = l.J.getD b.toNat sn0 := by
        show (rotL i l.J).getD _ sn0 = _
        rw [rot_getD (by omega) h3.1, h3.2]
      rw [e]; exact h
theorem rotJ_poss (hi : i < l.J.length) (hr : r < l.R.length) : possF (canB (withJ l (rotL i l.J))) (rotL i l.J).length r fal l.R.length [] = possF (canB l) l.J.length r fal l.R.length [] := by
  rw [Bool.eq_iff_iff]
  refine ⟨fun h => ?_, rotJ_up hi hr⟩
  rcases Nat.eq_zero_or_pos i with rfl | h0
  · have e : rotL 0 l.J = l.J := by unfold rotL; simp
    rw [e] at h; exact h
  · have h1 := rotJ_up (l := withJ l (rotL i l.J)) (i := l.J.length - i) (r := r) (fal := fal) (by show l.J.length - i < (rotL i l.J).length; rw [rot_len]; omega) hr h
    have e : rotL (l.J.length - i) (withJ l (rotL i l.J)).J = l.J := rot_back (by omega)
    rw [e] at h1; exact h1
theorem rotR_poss (hi : i < l.R.length) (hr : r < l.R.length) : possF (canB (withR l (rotL i l.R))) l.J.length r fal (rotL i l.R).length [] = possF (canB l) l.J.length ((r + i) % l.R.length) fal l.R.length [] := by
  rw [rot_len]
  have hm : 0 < l.R.length := by omega
  have ms : ∀ r, r < l.R.length → (r + i) % l.R.length < l.R.length ∧ ((r + i) % l.R.length + l.R.length - i) % l.R.length = r := fun r hr => by
    refine ⟨Nat.mod_lt _ hm, ?_⟩
    rcases Nat.lt_or_ge (r + i) l.R.length with h | h
    · rw [Nat.mod_eq_of_lt h, show r + i + l.R.length - i = r + l.R.length by omega, Nat.add_mod_right, Nat.mod_eq_of_lt hr]
    · rw [Nat.mod_eq_sub_mod h, Nat.mod_eq_of_lt (show r + i - l.R.length < l.R.length by omega), show r + i - l.R.length + l.R.length - i = r by omega, Nat.mod_eq_of_lt hr]
  have cc : ∀ k b, k < l.R.length → canB (withR l (rotL i l.R)) k b = canB l ((k + i) % l.R.length) b := fun k b hk => withR_can (rot_getD (by omega) hk)
  rw [Bool.eq_iff_iff]
  constructor
  · intro h
    refine poss_map (can := canB (withR l (rotL i l.R))) (m := l.J.length) (n := l.R.length) (pi := fun k => (k + l.R.length - i) % l.R.length) (si := id) (fun k hk => (mod_sub hi hk).1) (fun a b ha hb h => by rw [← (mod_sub hi ha).2, h, (mod_sub hi hb).2]) (fun _ h => h) (fun _ _ _ _ h => h) (fun _ _ => Iff.rfl) (fun k b hk _ h => ?_) (ms r hr).1 ?_
    · rw [cc _ _ (mod_sub hi hk).1, (mod_sub hi hk).2] at h; exact h
    · try dsimp only
      rw [(ms r hr).2]; exact h
  · intro h
    exact poss_map (can := canB l) (m := l.J.length) (n := l.R.length) (pi := fun k => (k + i) % l.R.length) (si := id) (fun k hk => (ms k hk).1) (fun a b ha hb h => by rw [← (ms a ha).2, h, (ms b hb).2]) (fun _ h => h) (fun _ _ _ _ h => h) (fun _ _ => Iff.rfl) (fun k b hk _ h => by rw [cc _ _ hk]; exact h) hr h
theorem withJ_ok {J : List Sn} (h : faultM l = 0) (hl : J.length = l.J.length) (hs : ∀ s ∈ J, s ∈ l.J) : faultM (withJ l J) = 0 := by
  unfold faultM at h
  split at h
  · cases h
  · rename_i h1
    split at h
    · rename_i h2; exact absurd h h2
    · rename_i h2
      split at h
      · rename_i h3
        unfold faultM withJ
        dsimp only
        rw [hl, if_neg h1, if_neg h2, if_pos]
        simp only [Bool.and_eq_true] at h3 ⊢
        exact ⟨h3.1, List.all_eq_true.2 (fun s hs2 => List.all_eq_true.1 h3.2.1 s (hs s hs2)), h3.2.2⟩
      · cases h
theorem rotJ_ok (h : faultM l = 0) : faultM (withJ l (rotL i l.J)) = 0 := withJ_ok h rot_len (fun s hs => rot_mem.1 hs)
theorem rotR_ok (h : faultM l = 0) : faultM (withR l (rotL i l.R)) = 0 := withR_ok h (by rw [rot_len]; exact (lg_ok h).2.2.1) (fun r hr => okRC_of h r (rot_mem.1 hr))
theorem verdW_val (h : faultM l = 0) : verdW l = if (List.range l.R.length).any (fun r => !(ownV l r || falV l r)) = true then ([], 11) else ((List.range l.R.length).map (verdV l), 0) := by unfold verdW; rw [if_neg (fun h2 => h2 h)]
theorem rotJ_verd (h : faultM l = 0) (hi : i < l.J.length) : verdW (withJ l (rotL i l.J)) = verdW l := by
  have e1 : ∀ r, r < l.R.length → ownV (withJ l (rotL i l.J)) r = ownV l r := fun r hr => rotJ_poss hi hr
  have e2 : ∀ r, r < l.R.length → falV (withJ l (rotL i l.J)) r = falV l r := fun r hr => rotJ_poss hi hr
  have e3 : ∀ r, r < l.R.length → verdV (withJ l (rotL i l.J)) r = verdV l r := fun r hr => by unfold verdV; rw [e1 r hr, e2 r hr]
  have e4 : (List.range (withJ l (rotL i l.J)).R.length).any (fun r => !(ownV (withJ l (rotL i l.J)) r || falV (withJ l (rotL i l.J)) r)) = (List.range l.R.length).any (fun r => !(ownV l r || falV l r)) := by
    rw [Bool.eq_iff_iff, List.any_eq_true, List.any_eq_true]
    constructor
    · rintro ⟨r, hr, h⟩; exact ⟨r, hr, by rw [← e1 r (List.mem_range.1 hr), ← e2 r (List.mem_range.1 hr)]; exact h⟩
    · rintro ⟨r, hr, h⟩; exact ⟨r, hr, by rw [e1 r (List.mem_range.1 hr), e2 r (List.mem_range.1 hr)]; exact h⟩
  have e5 : (List.range (withJ l (rotL i l.J)).R.length).map (verdV (withJ l (rotL i l.J))) = (List.range l.R.length).map (verdV l) := List.map_congr_left (fun r hr => e3 r (List.mem_range.1 hr))
  rw [verdW_val h, verdW_val (rotJ_ok h), e4, e5]
theorem rotR_verd (h : faultM l = 0) (hi : i < l.R.length) : (verdW (withR l (rotL i l.R))).2 = (verdW l).2 ∧ (verdW (withR l (rotL i l.R))).1.length = (verdW l).1.length ∧ ∀ r, r < (verdW l).1.length → (verdW (withR l (rotL i l.R))).1.getD ((r + l.R.length - i) % l.R.length) 0 = (verdW l).1.getD r 0 := by
  have h' := rotR_ok (i := i) h
  have hl : (withR l (rotL i l.R)).R.length = l.R.length := rot_len
  have e1 : ∀ r, r < l.R.length → ownV (withR l (rotL i l.R)) r = ownV l ((r + i) % l.R.length) := fun r hr => rotR_poss hi hr
  have e2 : ∀ r, r < l.R.length → falV (withR l (rotL i l.R)) r = falV l ((r + i) % l.R.length) := fun r hr => rotR_poss hi hr
  have hm : ∀ r, (r + i) % l.R.length < l.R.length := fun r => Nat.mod_lt _ (by omega)
  by_cases hv : (verdW l).2 = 0
  · obtain ⟨g1, _, g3⟩ := vd_ok h hv
    have hv' : (verdW (withR l (rotL i l.R))).2 = 0 := by
      have := verdW_ok h' (k := l.R.length) hl.symm (fun j hj => by rw [e1 j hj, e2 j hj]; exact g3 _ (hm j))
      rw [this]
    obtain ⟨k1, _, _⟩ := vd_ok h' hv'
    refine ⟨by rw [hv, hv'], by rw [g1, k1, List.length_map, List.length_map, List.length_range, List.length_range, hl], fun r hr => ?_⟩
    have hr : r < l.R.length := by rw [g1, List.length_map, List.length_range] at hr; exact hr
    have h3 := mod_sub hi hr
    rw [verd_getD k1 (by rw [hl]; exact h3.1), verd_getD g1 hr]
    unfold verdV
    rw [e1 _ h3.1, e2 _ h3.1, h3.2]
  · have hv' : ¬ (verdW (withR l (rotL i l.R))).2 = 0 := fun h2 => hv (by
      obtain ⟨_, _, g3⟩ := vd_ok h' h2
      have := verdW_ok h (k := l.R.length) rfl (fun j hj => by
        have h3 := mod_sub hi hj
        have := g3 _ (by rw [hl]; exact h3.1)
        rw [e1 _ h3.1, e2 _ h3.1, h3.2] at this
        exact this)
      rw [this])
    rw [(vd_err h hv).1, (vd_err h' hv').1]
    exact ⟨rfl, rfl, fun r hr => absurd hr (Nat.not_lt_zero _)⟩
end
/-! ### Parts -/
/-! ### Lists in lists -/
section
variable {t : List Int} {a b : List (List Int)} {k i : Nat} {L M : List SV}
end
section
variable {co : List Sg} {er : Int} {se : List Int} {sl : List SN} {rl : List RC} {hr : Int} {t : List Int} {k : Nat} {D : List SV}
end


end Go.Proofs.YtekkdhpgcilpdaaGreat
