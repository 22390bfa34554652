/- Contracts. -/
import Derived.Test.YtfbjllabgkabkaaE1
set_option linter.unusedVariables false
set_option linter.unusedSimpArgs false
namespace Go.Proofs.Ytfbjllabgkabkaa
open Go Go.RowKit Go.Gv Go.Fl

theorem ex_snoc_cases {s r : Sg} {n : Int} (h : Ex s r n) : (s = [] ∧ r = [] ∧ n = 0) ∨ ∃ s' t r' wr c n', s = s' ++ t ∧ r = r' ++ wr ∧ Pc t wr c ∧ Ex s' r' n' ∧ n = n' + c := by
  have h1 := ex_rev h
  generalize hs : s.reverse = a at h1
  generalize hr : r.reverse = b at h1
  cases h1 with
  | nil => left; exact ⟨List.reverse_eq_nil_iff.1 hs, List.reverse_eq_nil_iff.1 hr, rfl⟩
  | @cons t wr s1 r1 c n1 hp h2 =>
    right
    refine ⟨s1.reverse, t.reverse, r1.reverse, wr.reverse, c, n1, ?_, ?_, pc_rev hp, ex_rev h2, Int.add_comm _ _⟩
    · rw [← List.reverse_append, ← hs, List.reverse_reverse]
    · rw [← List.reverse_append, ← hr, List.reverse_reverse]
theorem fe_snoc {s r t wr : Sg} {c : Int} (h : Pc t wr c) : fe 1048576 (s ++ t) (r ++ wr) ≤ fe 1048576 s r + c := by
  have h0 := (pc_facts h).1
  by_cases hf : fe 1048576 s r < 1048576
  · exact fe_le (ex_append (ex_fe hf) (ex_one h))
  · have := fe_bounds (F := 1048576) (by decide) (s ++ t) (r ++ wr)
    omega
theorem take_snoc1 {rd : Sg} {k : Nat} (hk : 0 < k) (h : k ≤ rd.length) : rd.take k = rd.take (k - 1) ++ [rd.getD (k - 1) 0] := by
  obtain ⟨j, rfl⟩ : ∃ j, k = j + 1 := ⟨k - 1, by omega⟩
  rw [List.take_add_one, Nat.add_sub_cancel, List.getD_eq_getElem?_getD, List.getElem?_eq_getElem (show j < rd.length by omega)]
  rfl
theorem take_snoc_inv {rd r' : Sg} {y : UInt8} {k : Nat} (h : k ≤ rd.length) (he : rd.take k = r' ++ [y]) : 0 < k ∧ r' = rd.take (k - 1) ∧ y = rd.getD (k - 1) 0 := by
  have hl := congrArg List.length he
  rw [List.length_take, List.length_append, List.length_cons, List.length_nil] at hl
  have hk : 0 < k := by omega
  rw [take_snoc1 hk h] at he
  have := List.append_inj' he rfl
  exact ⟨hk, this.1.symm, by have := this.2; injection this with h1 _; exact h1.symm⟩
theorem u8_nat {x y : UInt8} : (x.toNat : Int) = (y.toNat : Int) ↔ x = y := ⟨fun h => u8_eq h, fun h => by rw [h]⟩
section
variable {rd s : Sg} {R B : List Int} {la x : UInt8}
theorem sg2_le (k : Nat) : sg2 rd R B la x k ≤ sg1 rd R B la x k := by unfold sg2; split <;> omega
theorem sg3_le (k : Nat) : sg3 rd R B la x k ≤ sg2 rd R B la x k := by unfold sg3; split <;> omega
theorem sg4_le (k : Nat) : sg4 rd R B la x k ≤ sg3 rd R B la x k := by unfold sg4; split <;> omega
theorem sg5_le (k : Nat) : sg5 rd R B la x k ≤ sg4 rd R B la x k := by unfold sg5; split <;> omega
/-- one more sign: the row is that of the fewest errors -/
theorem sgv_fe (hR : ∀ k, k ≤ rd.length → R.getD k 0 = fe 1048576 s (rd.take k))
    (hla : x = 46 → ((la = 46 ∧ ∃ s', s = s' ++ [46] ∧ ∀ k, k ≤ rd.length → B.getD k 0 = fe 1048576 s' (rd.take k)) ∨ (la ≠ 46 ∧ ¬ ∃ s', s = s' ++ [46]))) :
    ∀ k, k ≤ rd.length → sgv rd R B la x k = fe 1048576 (s ++ [x]) (rd.take k) := by
  have main : ∀ k, k ≤ rd.length → (0 < k → sgv rd R B la x (k - 1) = fe 1048576 (s ++ [x]) (rd.take (k - 1))) → sgv rd R B la x k = fe 1048576 (s ++ [x]) (rd.take k) := by
    intro k hk ih
    rw [sgv_eq hk]
    have hv := fe_bounds (F := 1048576) (by decide) (s ++ [x]) (rd.take k)
    have l2 := sg2_le (rd := rd) (R := R) (B := B) (la := la) (x := x) k
    have l3 := sg3_le (rd := rd) (R := R) (B := B) (la := la) (x := x) k
    have l4 := sg4_le (rd := rd) (R := R) (B := B) (la := la) (x := x) k
    have l5 := sg5_le (rd := rd) (R := R) (B := B) (la := la) (x := x) k
    have c1 : fe 1048576 (s ++ [x]) (rd.take k) ≤ sg1 rd R B la x k := by
      have hp : Pc [x] [] 1 := by
        by_cases hx : x = 32
        · subst hx; exact .inr (.inr (.inr (.inr (.inl ⟨rfl, rfl, rfl⟩))))
        · exact .inr (.inl ⟨x, hx, rfl, rfl, rfl⟩)
      have := fe_snoc (s := s) (r := rd.take k) hp
      rw [List.append_nil] at this
      unfold sg1; rw [hR k hk]; exact this
    have a2 : fe 1048576 (s ++ [x]) (rd.take k) ≤ sg2 rd R B la x k := by
      unfold sg2
      split
      · rename_i h
        have hx := u8_nat.1 h.2
        have := fe_snoc (s := s) (r := rd.take (k - 1)) (t := [x]) (wr := [x]) (c := 0) (.inl ⟨x, rfl, rfl, rfl⟩)
        have h2 : fe 1048576 (s ++ [x]) (rd.take k) ≤ R.getD (k - 1) 0 := by rw [hR (k - 1) (by omega), take_snoc1 h.1 hk, hx]; omega
        omega
      · exact c1
    have a3 : fe 1048576 (s ++ [x]) (rd.take k) ≤ sg3 rd R B la x k := by
      unfold sg3
      split
      · rename_i h
        obtain ⟨h1, hx, hd⟩ := h
        have hx := u8_eq (n := 45) hx
        have he : rd.take k = rd.take (k - 2) ++ [46, 46] := by
          rw [← hd]; conv => lhs; rw [← List.take_append_drop (k - 2) (rd.take k), List.take_take, Nat.min_eq_left (by omega)]
        have := fe_snoc (s := s) (r := rd.take (k - 2)) (t := [45]) (wr := [46, 46]) (c := 1) (.inr (.inr (.inl ⟨rfl, rfl, rfl⟩)))
        have h2 : fe 1048576 (s ++ [x]) (rd.take k) ≤ R.getD (k - 2) 0 + 1 := by rw [hR (k - 2) (by omega), he, hx]; exact this
        omega
      · exact a2
    have a4 : fe 1048576 (s ++ [x]) (rd.take k) ≤ sg4 rd R B la x k := by
      unfold sg4
      split
      · rename_i h
        obtain ⟨h0, hx, hl, hd⟩ := h
        have hx := u8_eq (n := 46) hx
        have hl := u8_eq (n := 46) hl
        have hd := u8_eq (n := 45) hd
        rcases hla hx with ⟨_, s', hs, hB⟩ | ⟨h, _⟩
        · have := fe_snoc (s := s') (r := rd.take (k - 1)) (t := [46, 46]) (wr := [45]) (c := 1) (.inr (.inr (.inr (.inl ⟨rfl, rfl, rfl⟩))))
          have h2 : fe 1048576 (s ++ [x]) (rd.take k) ≤ B.getD (k - 1) 0 + 1 := by rw [hB (k - 1) (by omega), take_snoc1 h0 hk, hd, hs, hx, List.append_assoc]; exact this
          omega
        · exact absurd hl h
      · exact a3
    have a5 : fe 1048576 (s ++ [x]) (rd.take k) ≤ sg5 rd R B la x k := by
      unfold sg5
      split
      · rename_i h
        have hd := u8_eq (n := 32) h.2
        have := fe_snoc (s := s ++ [x]) (r := rd.take (k - 1)) (t := []) (wr := [32]) (c := 1) (.inr (.inr (.inr (.inr (.inr ⟨rfl, rfl, rfl⟩)))))
        rw [List.append_nil] at this
        have h2 : fe 1048576 (s ++ [x]) (rd.take k) ≤ sgv rd R B la x (k - 1) + 1 := by rw [ih h.1, take_snoc1 h.1 hk, hd]; exact this
        omega
      · exact a4
    by_cases hF : fe 1048576 (s ++ [x]) (rd.take k) < 1048576
    · have hB5 : sg5 rd R B la x k ≤ fe 1048576 (s ++ [x]) (rd.take k) := by
        have hx := ex_fe hF
        rcases ex_snoc_cases hx with ⟨h, _, _⟩ | ⟨s', t, r', wr, c, n', hs, hr, hp, hn, hvn⟩
        · simp at h
        · have hn' := fe_le hn
          rcases hp with ⟨y, rfl, rfl, rfl⟩ | ⟨y, hy, rfl, rfl, rfl⟩ | ⟨rfl, rfl, rfl⟩ | ⟨rfl, rfl, rfl⟩ | ⟨rfl, rfl, rfl⟩ | ⟨rfl, rfl, rfl⟩
          · obtain ⟨h1, h2⟩ := List.append_inj' hs rfl
            injection h2 with h2 _
            obtain ⟨k0, k1, k2⟩ := take_snoc_inv hk hr
            have hq : sg2 rd R B la x k ≤ R.getD (k - 1) 0 := by
              unfold sg2; rw [if_pos ⟨k0, u8_nat.2 (by rw [← k2, h2])⟩]; omega
            rw [hR (k - 1) (by omega), h1, ← k1] at hq
            omega
          · obtain ⟨h1, h2⟩ := List.append_inj' hs rfl
            rw [List.append_nil] at hr
            have hq : sg1 rd R B la x k = R.getD k 0 + 1 := rfl
            rw [hR k hk, h1, hr] at hq
            omega
          · obtain ⟨h1, h2⟩ := List.append_inj' hs rfl
            injection h2 with h2 _
            have hr2 : rd.take k = (r' ++ [46]) ++ [46] := by rw [List.append_assoc]; exact hr
            obtain ⟨k0, k1, k2⟩ := take_snoc_inv hk hr2
            obtain ⟨j0, j1, j2⟩ := take_snoc_inv (k := k - 1) (by omega) k1.symm
            have hd : (rd.take k).drop (k - 2) = [46, 46] := by
              rw [hr, List.drop_left' (by rw [j1, List.length_take]; omega)]
            have hq : sg3 rd R B la x k ≤ R.getD (k - 2) 0 + 1 := by
              unfold sg3; rw [if_pos ⟨by omega, by rw [h2]; rfl, hd⟩]; omega
            rw [hR (k - 2) (by omega), h1, show k - 2 = k - 1 - 1 by omega, ← j1] at hq
            omega
          · have hs2 : s ++ [x] = (s' ++ [46]) ++ [46] := by rw [List.append_assoc]; exact hs
            obtain ⟨h1, h2⟩ := List.append_inj' hs2 rfl
            injection h2 with h2 _
            obtain ⟨k0, k1, k2⟩ := take_snoc_inv hk hr
            rcases hla h2 with ⟨hl, s'', hs3, hB⟩ | ⟨_, h⟩
            · obtain ⟨h5, _⟩ := List.append_inj' (h1.symm.trans hs3) rfl
              have hq : sg4 rd R B la x k ≤ B.getD (k - 1) 0 + 1 := by
                unfold sg4; rw [if_pos ⟨k0, by rw [h2]; rfl, by rw [hl]; rfl, by rw [← k2]; rfl⟩]; omega
              rw [hB (k - 1) (by omega), ← h5, ← k1] at hq
              omega
            · exact absurd ⟨s', h1⟩ h
          · obtain ⟨h1, h2⟩ := List.append_inj' hs rfl
            rw [List.append_nil] at hr
            have hq : sg1 rd R B la x k = R.getD k 0 + 1 := rfl
            rw [hR k hk, h1, hr] at hq
            omega
          · rw [List.append_nil] at hs
            obtain ⟨k0, k1, k2⟩ := take_snoc_inv hk hr
            have hq : sg5 rd R B la x k ≤ sgv rd R B la x (k - 1) + 1 := by
              unfold sg5; rw [if_pos ⟨k0, by rw [← k2]; rfl⟩]; omega
            rw [ih k0, hs, ← k1] at hq
            omega
      omega
    · omega
  intro k
  induction k with
  | zero => exact fun hk => main 0 hk (fun h => by omega)
  | succ k ih => exact fun hk => main (k + 1) hk (fun _ => ih (by omega))
end
theorem bv_fe (rd : Sg) : ∀ k, k ≤ rd.length → bv rd k = fe 1048576 [] (rd.take k)
  | 0, _ => by rw [List.take_zero]; rfl
  | k + 1, hk => by
    have ih := bv_fe rd k (by omega)
    have hv := fe_bounds (F := 1048576) (by decide) [] (rd.take (k + 1))
    have hs : rd.take (k + 1) = rd.take k ++ [rd.getD k 0] := take_snoc1 (k := k + 1) (by omega) hk
    unfold bv
    by_cases hF : fe 1048576 [] (rd.take (k + 1)) < 1048576
    · rcases ex_snoc_cases (ex_fe hF) with ⟨_, h, _⟩ | ⟨s', t, r', wr, c, n', h1, h2, hp, hn, hvn⟩
      · rw [hs] at h; simp at h
      · have h1' := List.append_eq_nil_iff.1 h1.symm
        have hn' := fe_le hn
        rcases hp with ⟨y, rfl, rfl, rfl⟩ | ⟨y, hy, rfl, rfl, rfl⟩ | ⟨rfl, rfl, rfl⟩ | ⟨rfl, rfl, rfl⟩ | ⟨rfl, rfl, rfl⟩ | ⟨rfl, rfl, rfl⟩
        · simp at h1'
        · simp at h1'
        · simp at h1'
        · simp at h1'
        · simp at h1'
        · obtain ⟨_, k1, k2⟩ := take_snoc_inv hk h2
          rw [Nat.add_sub_cancel] at k1 k2
          rw [if_pos ⟨hk, k2.symm⟩, ih]
          rw [h1'.1, k1] at hn'
          have := fe_snoc (s := []) (r := rd.take k) (t := []) (wr := [32]) (c := 1) (.inr (.inr (.inr (.inr (.inr ⟨rfl, rfl, rfl⟩)))))
          rw [List.append_nil] at this
          rw [← k2] at hs
          rw [hs] at hvn hF ⊢
          omega
    · split
      · rename_i h
        have := fe_snoc (s := []) (r := rd.take k) (t := []) (wr := [32]) (c := 1) (.inr (.inr (.inr (.inr (.inr ⟨rfl, rfl, rfl⟩)))))
        rw [List.append_nil] at this
        rw [hs, h.2] at hF hv
        rw [ih, hs, h.2]
        omega
      · omega
/-- a row is that of a string that is sent -/
def RowOf (rd s : Sg) (R : List Int) : Prop := ∀ k, k ≤ rd.length → R.getD k 0 = fe 1048576 s (rd.take k)
theorem begun_row {rd : Sg} (h : rd.length ≤ 40) : RowOf rd [] (begunL rd) := fun k hk => by
  rw [begunL, bl_get (by omega) (by omega)]; exact bv_fe rd k hk
theorem so_row {rd s : Sg} {R B : List Int} {la x : UInt8} (h : rd.length ≤ 40) (hR : RowOf rd s R) (hla : x = 46 → ((la = 46 ∧ ∃ s', s = s' ++ [46] ∧ RowOf rd s' B) ∨ (la ≠ 46 ∧ ¬ ∃ s', s = s' ++ [46]))) : RowOf rd (s ++ [x]) (so rd R B la x 41) := fun k hk => by
  rw [so_get (by omega)]; exact sgv_fe hR hla k hk
/-- the row after some signs; la: the last sign before them, B: the row before that one -/
theorem af_row {rd : Sg} (h : rd.length ≤ 40) : ∀ (u s : Sg) (R B : List Int) (la : UInt8), RowOf rd s R → (u.head? = some 46 → ((la = 46 ∧ ∃ s', s = s' ++ [46] ∧ RowOf rd s' B) ∨ (la ≠ 46 ∧ ¬ ∃ s', s = s' ++ [46]))) → RowOf rd (s ++ u) (afL rd R B la u)
  | [], s, R, B, la, hR, _ => by rw [List.append_nil]; exact hR
  | x :: u, s, R, B, la, hR, hl => by
    have h1 := so_row (x := x) h hR (fun hx => hl (by rw [hx]; rfl))
    have := af_row h u (s ++ [x]) (so rd R B la x 41) R x h1 (fun _ => by
      by_cases hx : x = 46
      · subst hx; exact .inl ⟨rfl, s, rfl, hR⟩
      · refine .inr ⟨hx, ?_⟩
        rintro ⟨s', hs'⟩
        have := (List.append_inj' hs' rfl).2
        injection this with h2 _
        exact hx h2)
    rw [List.append_assoc] at this
    exact this
/-- a beginning that costs too much: all that follows does, too -/
theorem ex_split {s u r : Sg} {n : Int} (hu : u.head? ≠ some 46) : ∀ {a : Sg}, Ex a r n → a = s ++ u → ∃ r1 r2 n1 n2, r = r1 ++ r2 ∧ Ex s r1 n1 ∧ Ex u r2 n2 ∧ n = n1 + n2 := by
  intro a h
  induction h generalizing s with
  | nil =>
    intro he
    obtain ⟨h1, h2⟩ := List.append_eq_nil_iff.1 he.symm
    subst h1; subst h2
    exact ⟨[], [], 0, 0, rfl, .nil, .nil, rfl⟩
  | @cons t wr s1 r1 c n hp h' ih =>
    intro he
    by_cases hl : t.length ≤ s.length
    · have hs : s = t ++ s.drop t.length := by
        have h3 := congrArg (List.take t.length) he
        rw [List.take_left, List.take_append_of_le_length hl] at h3
        conv => lhs; rw [← List.take_append_drop t.length s, ← h3]
      have h4 : s1 = s.drop t.length ++ u := by
        rw [hs, List.append_assoc] at he
        exact List.append_cancel_left he
      obtain ⟨p1, p2, n1, n2, e1, e2, e3, e4⟩ := ih h4
      refine ⟨wr ++ p1, p2, c + n1, n2, by rw [e1, List.append_assoc], ?_, e3, by omega⟩
      rw [hs]; exact .cons hp e2
    · -- the piece reaches beyond s
      have hts : s.length < t.length := by omega
      have hempty : s = [] := by
        cases s with
        | nil => rfl
        | cons y l =>
          exfalso
          have h2 : t.length ≤ 2 := by
            rcases hp with ⟨x, rfl, _⟩ | ⟨x, _, rfl, _⟩ | ⟨rfl, _⟩ | ⟨rfl, _⟩ | ⟨rfl, _⟩ | ⟨rfl, _⟩ <;> simp
          rw [List.length_cons] at hts
          have hl0 : l = [] := List.eq_nil_of_length_eq_zero (by omega)
          subst hl0
          rcases hp with ⟨x, rfl, _⟩ | ⟨x, _, rfl, _⟩ | ⟨rfl, _⟩ | ⟨rfl, _⟩ | ⟨rfl, _⟩ | ⟨rfl, _⟩
          · simp at hts
          · simp at hts
          · simp at hts
          · simp only [List.cons_append, List.nil_append] at he
            injection he with _ he2
            rw [← he2] at hu
            exact hu rfl
          · simp at hts
          · simp at hts
      subst hempty
      refine ⟨[], wr ++ r1, 0, c + n, rfl, .nil, ?_, by omega⟩
      rw [List.nil_append] at he
      rw [← he]; exact .cons hp h'
theorem cut_fe {rd s u : Sg} {er : Int} (hu : u.head? ≠ some 46) (her : er < 1048576) (h : ∀ k, k ≤ rd.length → er < fe 1048576 s (rd.take k)) : er < fe 1048576 (s ++ u) rd := by
  by_cases hF : fe 1048576 (s ++ u) rd < 1048576
  · obtain ⟨r1, r2, n1, n2, e1, e2, e3, e4⟩ := ex_split hu (ex_fe hF) rfl
    have h1 := fe_le e2
    have h2 := (ex_facts e3).1
    have h3 := h r1.length (by rw [e1, List.length_append]; omega)
    rw [e1, List.take_left] at h3
    omega
  · omega



end Go.Proofs.Ytfbjllabgkabkaa
