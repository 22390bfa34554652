/- Contracts. -/
import Derived.Test.YtbikicakdkbcgacGreatM4
import Derived.Test.YtbikicakdkbcgacGreatGvPut
set_option linter.unusedVariables false
set_option linter.unusedSimpArgs false
namespace Go.Proofs.YtbikicakdkbcgacGreat
open Go Go.RowKit Go.Gv Go.Fl

theorem own_some {w : World} {base e n c : Nat} {a : Option Addr} {xs : List Value} (h : w.ownsRow base e 1 (.slice a n c) n xs) (hn : 0 < n) : ∃ g, a = some ⟨g, 0, none⟩ := by
  rcases h.2 with ⟨_, h0⟩ | ⟨g, cap, cur, h1, _⟩
  · omega
  · injection h1 with h1; exact ⟨g, h1⟩
theorem own_capl {w : World} {base e n c : Nat} {a : Option Addr} {xs : List Value} (h : w.ownsRow base e 1 (.slice a n c) n xs) : n ≤ c := by
  rcases h.2 with ⟨h1, h0⟩ | ⟨g, cap, cur, h1, _, _, h2, _⟩
  · omega
  · injection h1 with _ _ h3; omega
theorem grown_rfl (w : World) (o : Option Nat) : w.grownBy w o := ⟨rfl, rfl, rfl, Nat.le_refl _, fun _ _ _ => rfl⟩
theorem cut_cast {g n c k : Nat} (h : k < c) : Value.slice (if c = ((k : Nat) : Int).toNat then some ⟨g, 0, none⟩ else (some (⟨g, 0, none⟩ : Addr)).map (·.add (((k : Nat) : Int).toNat * 1))) (((n : Nat) : Int).toNat - ((k : Nat) : Int).toNat) (c - ((k : Nat) : Int).toNat) = .slice (some ⟨g, k, none⟩) (n - k) (c - k) := by
  rw [Int.toNat_natCast, Int.toNat_natCast, if_neg (by omega)]
  simp [Addr.add]
  try omega
theorem cuth_cast {g c k : Nat} (h : 0 < c) : Value.slice (if c = (0 : Int).toNat then some ⟨g, 0, none⟩ else (some (⟨g, 0, none⟩ : Addr)).map (·.add ((0 : Int).toNat * 1))) (((k : Nat) : Int).toNat - (0 : Int).toNat) (c - (0 : Int).toNat) = .slice (some ⟨g, 0, none⟩) k c := by
  rw [if_neg (by simp; omega)]
  simp [Addr.add]
theorem own_take {w : World} {base e n c g k : Nat} {L : List SV} (h : w.ownsRow base e 1 (.slice (some ⟨g, 0, none⟩) n c) n (L.map SV.enc)) (hk : k ≤ n) : w.ownsRow base e 1 (.slice (some ⟨g, 0, none⟩) k c) k ((L.take k).map SV.enc) := by
  obtain ⟨hl, h2⟩ := h
  rw [List.length_map] at hl
  rcases h2 with ⟨h3, _⟩ | ⟨g2, cap, cur, h3, hb, hg, hnc, hcm, hcs, htk⟩
  · cases h3
  · cases h3
    refine ⟨by rw [List.length_map, List.length_take]; omega, .inr ⟨g, c, cur, rfl, hb, hg, by omega, hcm, hcs, ?_⟩⟩
    rw [List.map_take, ← htk, List.take_take]
    congr 1
    omega
theorem own_has {w : World} {base e n c g i : Nat} {L : List SV} {s : SV} (h : w.ownsRow base e 1 (.slice (some ⟨g, 0, none⟩) n c) n (L.map SV.enc)) (hi : i < L.length) (hs : L.getD i sv0 = s) : Has w g i s.enc := by
  obtain ⟨b, o, ha, hh⟩ := (Row.of_owns h).at1 i (L.getD i sv0) (getD_some hi)
  cases ha
  rw [Nat.zero_add] at hh
  rw [← hs]; exact hh
section
variable {P : Program} {ops : Array Oper} {e : Env} {w : World} {d : Option Nat} {ty : TypeId} {pos : String} {af : Array Edge} {g : Option (Nat × Bool)}
theorem o_clear_own {K : Value → World → Prop} {L : List SV} {k base t el : Nat} {x : Operand} {bytes g0 n c : Nat} (ht : P.underlying t = some (.slice el)) (he : Elem P el (SV.enc sv0) 1 bytes) (hat : (⟨.builtin .clear, #[x], #[t]⟩ : Call) = ⟨.builtin .clear, #[x], #[t]⟩)
    (hx : ev e x = .slice (some ⟨g0, k, none⟩) (n - k) (c - k)) (hdum : (0 : Nat) = 0) (hown : w.ownsRow base el 1 (.slice (some ⟨g0, 0, none⟩) n c) n (L.map SV.enc)) (hLl : L.length = n) (hk : k < n) (hw : wantedE ops e ⟨d, .call ⟨.builtin .clear, #[x], #[t]⟩, ty, pos, af, g⟩ = true)
    (h : ∀ w', w'.heap.size = w.heap.size → w'.ownsRow base el 1 (.slice (some ⟨g0, 0, none⟩) n c) n ((L.take k ++ List.replicate (n - k) sv0).map SV.enc) → w.grownBy w' (Value.slice (some ⟨g0, 0, none⟩) n c).ownBlock → K (.tuple #[]) w') : EffAt P ops e w ⟨d, .call ⟨.builtin .clear, #[x], #[t]⟩, ty, pos, af, g⟩ K := by
  obtain ⟨hl, h2⟩ := hown
  rcases h2 with ⟨h3, _⟩ | ⟨g2, cap, cur, h3, hb, hg, hnc, hcm, hcs, htk⟩
  · cases h3
  · cases h3
    have hlen : cur.toList.length = c := by simpa using hcs
    have hzc : (Builtin.zeroCells (SV.enc sv0).cells (n - k)).toList = List.replicate (n - k) (SV.enc sv0) := by
      show (Builtin.zeroCells ⟨[SV.enc sv0]⟩ (n - k)).toList = _
      simp [Builtin.zeroCells]
      apply List.ext_getElem
      · simp
      · intro i h1 h2
        simp [Nat.mod_one]
    have hst := run_storeCells_at P g0 k el (List.replicate (n - k) (SV.enc sv0)) 0 ⟨cur.toList⟩ w (by simpa using hg) (by simp; omega) (fun v hv => by rw [List.eq_of_mem_replicate hv]; rfl)
    simp only [Nat.add_zero] at hst
    obtain ⟨m, hm⟩ : ∃ m, n - k = m + 1 := ⟨n - k - 1, by omega⟩
    generalize hcs2 : (cur.toList.take k ++ List.replicate (n - k) (SV.enc sv0) ++ cur.toList.drop (k + (List.replicate (n - k) (SV.enc sv0)).length)) = cs2 at hst
    have hl2 : cs2.length = c := by rw [← hcs2]; simp; omega
    refine e_value (w' := w.setRow g0 ⟨cs2⟩) hw rfl ?_ (h _ (by simp) ⟨by simp; omega, .inr ⟨g0, c, ⟨cs2⟩, rfl, hb, setRow_heap w g0 _ _ el _ hg, hnc, hcm, by simpa using hl2, ?_⟩⟩ ⟨rfl, rfl, rfl, by simp, fun k _ hk => setRow_other w g0 k _ (fun e => hk (by simp [e, Value.ownBlock]))⟩)
    · have e1 : (SV.enc sv0).cells = ⟨[SV.enc sv0]⟩ := rfl
      rw [hm] at hx hzc hst
      simp [execOp, resolve, invoke, builtin, hx, Builtin.clear_, run_underlying ht, he.zero, hzc, hst]
    · show cs2.take (n * 1) = _
      rw [← hcs2, Nat.mul_one, List.map_append, List.map_take, List.map_replicate, ← htk, Nat.mul_one]
      rw [List.take_append_of_le_length (by simp; omega), List.take_of_length_le (by simp; omega), List.take_take, Nat.min_eq_left (by omega)]
end
theorem ded_small {l : List (List Int)} (h : l.length < 2) : dedL l = l := by
  match l with
  | [] => rfl
  | [x] => rfl
  | _ :: _ :: _ => simp at h; omega
section
variable {S L : List SV} {j k k2 : Nat}
theorem tk_succ (h : j < S.length) : (S.take (j + 1)).map (·.xs) = (S.take j).map (·.xs) ++ [(S.getD j sv0).xs] := by
  rw [List.take_add_one, List.map_append, List.getD_eq_getElem?_getD, List.getElem?_eq_getElem h]; rfl
theorem ded_last (h1 : 1 ≤ j) (h : j ≤ S.length) : (dedL ((S.take j).map (·.xs))).getLast? = some (S.getD (j - 1) sv0).xs := by
  obtain ⟨i, rfl⟩ : ∃ i, j = i + 1 := ⟨j - 1, by omega⟩
  rw [tk_succ (by omega), ded_snoc, dedS_last]; rfl
theorem ded_one (h : 2 ≤ S.length) : dedL ((S.take 1).map (·.xs)) = (S.take 1).map (·.xs) := ded_small (by rw [List.length_map, List.length_take]; omega)
theorem ded_step (h1 : 1 ≤ j) (h : j < S.length) (hd : dedL ((S.take j).map (·.xs)) = (S.take j).map (·.xs)) (hne : ¬ (S.getD j sv0).xs = (S.getD (j - 1) sv0).xs) : dedL ((S.take (j + 1)).map (·.xs)) = (S.take (j + 1)).map (·.xs) := by
  rw [tk_succ h, ded_snoc]
  unfold dedS
  rw [ded_last h1 (by omega), if_neg (by intro h2; exact hne (Option.some.inj h2).symm), hd]
theorem ded_stop (h1 : 1 ≤ j) (h : j < S.length) (hd : dedL ((S.take j).map (·.xs)) = (S.take j).map (·.xs)) (he : (S.getD j sv0).xs = (S.getD (j - 1) sv0).xs) : (S.take j).map (·.xs) = dedL ((S.take (j + 1)).map (·.xs)) := by
  rw [tk_succ h, ded_snoc]
  unfold dedS
  rw [ded_last h1 (by omega), if_pos (by rw [he]), hd]
theorem ded_skip (h : j + k2 < S.length) (h1 : 1 ≤ k2) (hd : (L.take k).map (·.xs) = dedL ((S.take (j + k2)).map (·.xs))) (he : (S.getD (j + k2) sv0).xs = (S.getD (j + (k2 - 1)) sv0).xs) : (L.take k).map (·.xs) = dedL ((S.take (j + (k2 + 1))).map (·.xs)) := by
  rw [← Nat.add_assoc, tk_succ h, ded_snoc]
  unfold dedS
  rw [ded_last (by omega) (by omega), show j + k2 - 1 = j + (k2 - 1) by omega, if_pos (by rw [he]), hd]
theorem take_set {s : SV} (h : k < L.length) : (L.set k s).take (k + 1) = L.take k ++ [s] := by
  rw [List.take_add_one, List.take_set_of_le (Nat.le_refl k), List.getElem?_set_self h]; rfl
theorem ded_put {s : SV} (hl : L.length = S.length) (hk : k < j + k2) (h : j + k2 < S.length) (h1 : 1 ≤ k2) (hd : (L.take k).map (·.xs) = dedL ((S.take (j + k2)).map (·.xs))) (hne : ¬ (S.getD (j + k2) sv0).xs = (S.getD (j + (k2 - 1)) sv0).xs) (hs : s.xs = (S.getD (j + k2) sv0).xs := by rfl) : ((L.set k s).take (k + 1)).map (·.xs) = dedL ((S.take (j + (k2 + 1))).map (·.xs)) := by
  rw [← Nat.add_assoc, tk_succ h, ded_snoc, take_set (by omega), List.map_append, hd]
  unfold dedS
  rw [ded_last (by omega) (by omega), show j + k2 - 1 = j + (k2 - 1) by omega, if_neg (by intro h2; exact hne (Option.some.inj h2).symm)]
  show _ ++ [s.xs] = _
  rw [hs]
theorem set_above {s : SV} (h : ∀ i, k ≤ i → L.getD i sv0 = S.getD i sv0) : ∀ i, k + 1 ≤ i → (L.set k s).getD i sv0 = S.getD i sv0 := fun i hi => by
  rw [List.getD_eq_getElem?_getD, List.getElem?_set_ne (by omega), ← List.getD_eq_getElem?_getD]
  exact h i (by omega)
theorem sub_put {s : SV} (hl : L.length = S.length) (hk : k < j + k2) (h : j + k2 < S.length) (hsub : ∀ t ∈ L.take k, t ∈ S) (hs : s = S.getD (j + k2) sv0 := by rfl) : ∀ t ∈ (L.set k s).take (k + 1), t ∈ S := fun t ht => by
  rw [take_set (by omega)] at ht
  rcases List.mem_append.1 ht with h1 | h1
  · exact hsub t h1
  · obtain rfl : t = s := by simpa using h1
    rw [hs]; exact getD_lt h
end

theorem el31 : Elem Tryz.prog 31 (.slice none 0 0) 1 24 := elem_of (by kernel_rfl) rfl (by decide)
theorem compact_ret (B0 : Nat) (oa : Option Addr) (oc : Nat) (S : List SV) (w : World) (ho0 : w.ownsRow B0 31 1 (.slice oa S.length oc) S.length (S.map SV.enc)) (hos0 : OwnsI w B0 3 S) (hSn : S.length ≤ 2097152) (hx : ∀ s ∈ S, s.xs.length ≤ 2097152) : Ret Tryz.prog 55 [.slice oa S.length oc, .func (.func 56) ⟨[]⟩ ⟨[]⟩] w (fun v w' => ∃ da dc D, v = .slice da (List.length D) dc ∧ D.map (·.xs) = dedL (S.map (·.xs)) ∧ w'.ownsRow B0 31 1 (.slice da (List.length D) dc) (List.length D) (D.map SV.enc) ∧ OwnsI w' B0 3 D ∧ w.grownBy w' (Value.slice oa S.length oc).ownBlock) := by
 have ho := ho0
 have hos := hos0
 have hG0 := grown_rfl w (Value.slice oa S.length oc).ownBlock
 have hsz : w.heap.size ≤ w.heap.size := Nat.le_refl _
 refine ret_of_runs (args := [_, _]) Tryz.func55 rfl (Nat.le_of_ble_eq_true rfl) (by kernel_rfl) (r_seq (r_region' (l_q (qas rfl rfl) (l_nil (r_seq (r_seq (r_region' (l_q (qms rfl rfl) (l_q (q_len rfl Tryz.underlying56 rfl rfl) (l_q (q_lss rfl rfl rfl) (l_nil (r_cond rfl (fun hc1 => ?_) (fun hc1 => ?_)))))))))))))
 ·
  replace hc1 := dt hc1
  refine r_seq (r_region' (l_q (qms rfl rfl) (l_q (qas rfl rfl) (l_nil (r_ret_ (vs := [.slice _ _ _]) rfl Tryz.func55 rfl (.nil _) ⟨rfl, trivial⟩ ?_)))))
  exact ⟨oa, oc, S, rfl, (ded_small (by rw [List.length_map]; omega)).symm, ho, hos, hG0⟩
 ·
  replace hc1 := dlt hc1
  refine r_skip (r_seq (r_seq ?_))
  obtain ⟨g0, rfl⟩ := own_some ho (by omega)
  have hcap := own_capl ho
  refine r_region' (l_q (qai rfl rfl) (l_nil (r_block (r_rounds (α := Nat) (fun j e wl => Knows e [(0, .slice (some ⟨g0, 0, none⟩) S.length oc), (1, .func (.func 56) ⟨[]⟩ ⟨[]⟩), (5, vint (j : Int))] ∧ (1 ≤ j ∧ j ≤ S.length) ∧ (dedL ((S.take j).map (·.xs)) = (S.take j).map (·.xs)) ∧ (wl.ownsRow B0 31 1 (.slice (some ⟨g0, 0, none⟩) S.length oc) S.length ((S).map SV.enc)) ∧ (OwnsI wl B0 3 S) ∧ (w.grownBy wl (Value.slice (some ⟨g0, 0, none⟩) S.length oc).ownBlock) ∧ (w.heap.size ≤ wl.heap.size)) (fun j => S.length - j) 1 ?_ ?_))))
  ·
   exact ⟨⟨rfl, rfl, rfl, trivial⟩, (by omega), (ded_one (by omega)), ho, hos, hG0, hsz⟩
  ·
   rintro j el2 wl2 ⟨hkn, hj, hd0, ho, hos, hG0, hsz⟩ ih2
   obtain ⟨e2, rfl⟩ := knows_env hkn
   refine r_seq (r_seq (r_region' (l_q (qmi rfl rfl) (l_q (qms rfl rfl) (l_q (q_len rfl Tryz.underlying56 rfl rfl) (l_q (q_lss rfl rfl rfl) (l_nil (r_cond rfl (fun hc3 => ?_) (fun hc3 => ?_)))))))))
   ·
    replace hc3 := dt hc3
    have hj1 : 1 ≤ j := hj.1
    have hjS : j < S.length := by omega
    have hx1 := (hx _ (getD_lt (d := sv0) (show j < S.length by omega)))
    have hx2 := (hx _ (getD_lt (d := sv0) (show ((j : Int) - 1).toNat < S.length by omega)))
    have hjm : ((j : Int) - 1).toNat = j - 1 := by omega
    refine r_skip (r_seq (r_block (r_seq (r_draw ext_refl' ext_trans' [0, 1, 2, 3, 4, 5, 6, 7, 8, 9, 10] [10] 3 (by kernel_rfl) (by kernel_rfl) ?_))))
    intro w4 _ hE4
    replace ho := own_ext ho hE4
    replace hos := hos.ext hE4
    replace hG0 := grown_trans hG0 (grown_of_ext _ hE4)
    replace hsz := Nat.le_trans hsz hE4.size
    refine m_q rfl rfl (fun w' hC' => q_move (v := .func _ _ _) rfl rfl) (m_q rfl rfl (fun w' hC' => qms rfl rfl) (m_q rfl rfl (fun w' hC' => qmi rfl rfl) ?_))
    have hr6 := hos.rows.get (i := j) (by omega)
    obtain ⟨b5, o5, ha5, hh5⟩ := (Row.of_owns ho).at1 j ((S).getD j sv0) (getD_some (by omega))
    refine m_q rfl rfl (fun w' hC' => q_indexAddr1 Tryz.underlying56 Tryz.sizeOf31 rfl ha5 rfl (by omega) rfl) (m_q rfl rfl (fun w' hC' => q_load Tryz.isAgg31 rfl ((hh5.ext hC')) rfl) (m_q rfl rfl (fun w' hC' => qms rfl rfl) (m_q rfl rfl (fun w' hC' => qmi rfl rfl) (m_q rfl rfl (fun w' hC' => q_sub rfl rfl (by omega) rfl) ?_))))
    have hr8 := hos.rows.get (i := ((j : Int) - 1).toNat) (by omega)
    obtain ⟨b7, o7, ha7, hh7⟩ := (Row.of_owns ho).at1 ((j : Int) - 1).toNat ((S).getD ((j : Int) - 1).toNat sv0) (getD_some (by omega))
    refine m_q rfl rfl (fun w' hC' => q_indexAddr1 Tryz.underlying56 Tryz.sizeOf31 rfl ha7 rfl (by omega) rfl) (m_q rfl rfl (fun w' hC' => q_load Tryz.isAgg31 rfl ((hh7.ext hC')) rfl) (m_o rfl rfl (o_callv (f := 56) (fst := []) (cap := []) rfl Tryz.call56 rfl (equal_ret _ _ (((S).getD j sv0).xs) _ _ (((S).getD ((j : Int) - 1).toNat sv0).xs) _ hr6 (by omega) hr8 (by omega)) rfl ?_)))
    rintro _ w9 ⟨rfl, hE9⟩
    refine ⟨hE9, ?_⟩
    replace ho := own_ext ho hE9
    replace hos := hos.ext hE9
    replace hG0 := grown_trans hG0 (grown_of_ext _ hE9)
    replace hsz := Nat.le_trans hsz hE9.size
    refine m_nil (r_forget [(0, .slice _ _ _), (1, .func _ _ _), (5, .int _ _), (28, .bool _)] ⟨rfl, rfl, rfl, rfl, trivial⟩ (fun e10 => (r_cond rfl (fun hc11 => ?_) (fun hc11 => ?_))))
    ·
     replace hc11 := dt hc11
     have g28 := hc11
     refine r_seq (r_region' (l_q (qms rfl rfl) (l_q (qmi rfl rfl) (l_q ((q_slice (lo := (j : Int)) (hi := (S.length : Int)) Tryz.underlying56 Tryz.sizeOf31 rfl rfl rfl (by omega) hcap rfl).cast (cut_cast (by omega))) (l_q (qas rfl rfl) (l_nil (r_seq (r_seq (r_region' (l_q (qai rfl rfl) (l_nil (r_block ?_))))))))))))
     refine r_rounds (α := Nat × Nat × (List SV)) (fun ⟨k2, k, L⟩ e wl => Knows e [(0, .slice (some ⟨g0, 0, none⟩) S.length oc), (1, .func (.func 56) ⟨[]⟩ ⟨[]⟩), (5, vint (k : Int)), (6, .slice (some ⟨g0, j, none⟩) (S.length - j) (oc - j)), (7, vint (k2 : Int))] ∧ ((1 ≤ k2 ∧ j + k2 ≤ S.length) ∧ k < j + k2) ∧ (L.length = S.length) ∧ (∀ i, k ≤ i → L.getD i sv0 = S.getD i sv0) ∧ ((L.take k).map (·.xs) = dedL ((S.take (j + k2)).map (·.xs))) ∧ (∀ s ∈ L.take k, s ∈ S) ∧ (wl.ownsRow B0 31 1 (.slice (some ⟨g0, 0, none⟩) S.length oc) S.length ((L).map SV.enc)) ∧ (OwnsI wl B0 3 S) ∧ (w.grownBy wl (Value.slice (some ⟨g0, 0, none⟩) S.length oc).ownBlock) ∧ (w.heap.size ≤ wl.heap.size)) (fun ⟨k2, k, L⟩ => S.length - k2) (1, j, S) ?_ ?_
     ·
      exact ⟨⟨rfl, rfl, rfl, rfl, rfl, trivial⟩, (by omega), rfl, (fun _ _ => rfl), (ded_stop hj1 hjS hd0 (by rw [hjm] at g28; exact g28)), (fun s hs => List.mem_of_mem_take hs), ho, hos, hG0, hsz⟩
     ·
      rintro ⟨k2, k, L⟩ el12 wl12 ⟨hkn, hk, hLl, hLd, hded, hsub, ho, hos, hG0, hsz⟩ ih12
      obtain ⟨e12, rfl⟩ := knows_env hkn
      refine r_seq (r_seq (r_region' (l_q (qmi rfl rfl) (l_q (qms rfl rfl) (l_q (q_len rfl Tryz.underlying56 rfl rfl) (l_q (q_lss rfl rfl rfl) (l_nil (r_cond rfl (fun hc13 => ?_) (fun hc13 => ?_)))))))))
      ·
       replace hc13 := dt hc13
       have hkS : j + k2 < S.length := by omega
       have hx3 := (hx _ (getD_lt (d := sv0) (show (j + k2) < S.length by omega)))
       have hx4 := (hx _ (getD_lt (d := sv0) (show (j + ((k2 : Int) - 1).toNat) < S.length by omega)))
       have hkm : ((k2 : Int) - 1).toNat = k2 - 1 := by omega
       refine r_skip (r_seq (r_block (r_seq (r_draw ext_refl' ext_trans' [0, 1, 2, 3, 4, 5, 6, 7, 8, 9, 10, 11] [10] 3 (by kernel_rfl) (by kernel_rfl) ?_))))
       intro w14 _ hE14
       replace ho := own_ext ho hE14
       replace hos := hos.ext hE14
       replace hG0 := grown_trans hG0 (grown_of_ext _ hE14)
       replace hsz := Nat.le_trans hsz hE14.size
       refine m_q rfl rfl (fun w' hC' => q_move (v := .func _ _ _) rfl rfl) (m_q rfl rfl (fun w' hC' => qms rfl rfl) (m_q rfl rfl (fun w' hC' => qmi rfl rfl) (m_q rfl rfl (fun w' hC' => q_indexAddr1 Tryz.underlying56 Tryz.sizeOf31 rfl (rfl : some (⟨g0, j, none⟩ : Addr) = _) rfl (by omega) rfl) (m_q rfl rfl (fun w' hC' => q_load Tryz.isAgg31 rfl (((own_has ho (i := (j + k2)) (by omega) (hLd _ (by omega))).ext hC')) rfl) (m_q rfl rfl (fun w' hC' => qms rfl rfl) (m_q rfl rfl (fun w' hC' => qmi rfl rfl) (m_q rfl rfl (fun w' hC' => q_sub rfl rfl (by omega) rfl) (m_q rfl rfl (fun w' hC' => q_indexAddr1 Tryz.underlying56 Tryz.sizeOf31 rfl (rfl : some (⟨g0, j, none⟩ : Addr) = _) rfl (by omega) rfl) (m_q rfl rfl (fun w' hC' => q_load Tryz.isAgg31 rfl (((own_has ho (i := (j + ((k2 : Int) - 1).toNat)) (by omega) (hLd _ (by omega))).ext hC')) rfl) ?_)))))))))
       refine m_o rfl rfl (o_callv (f := 56) (fst := []) (cap := []) rfl Tryz.call56 rfl (equal_ret _ _ ((S.getD (j + k2) sv0).xs) _ _ ((S.getD (j + ((k2 : Int) - 1).toNat) sv0).xs) _ (RowsI.get hos.rows (i := (j + k2)) (by omega)) (by omega) (RowsI.get hos.rows (i := (j + ((k2 : Int) - 1).toNat)) (by omega)) (by omega)) rfl ?_)
       rintro _ w15 ⟨rfl, hE15⟩
       refine ⟨hE15, ?_⟩
       replace ho := own_ext ho hE15
       replace hos := hos.ext hE15
       replace hG0 := grown_trans hG0 (grown_of_ext _ hE15)
       replace hsz := Nat.le_trans hsz hE15.size
       refine m_q rfl rfl (fun w' hC' => q_not rfl rfl) (m_nil (r_forget [(0, .slice _ _ _), (1, .func _ _ _), (5, .int _ _), (6, .slice _ _ _), (7, .int _ _), (49, .bool _)] ⟨rfl, rfl, rfl, rfl, rfl, rfl, trivial⟩ (fun e16 => (r_cond rfl (fun hc17 => ?_) (fun hc17 => ?_)))))
       ·
        replace hc17 := df (nt hc17)
        have g49 := hc17
        refine r_seq (r_region' (l_q (qms rfl rfl) (l_q (qmi rfl rfl) (l_q (qms rfl rfl) (l_q (qmi rfl rfl) (l_q (q_indexAddr1 Tryz.underlying56 Tryz.sizeOf31 rfl (rfl : some (⟨g0, j, none⟩ : Addr) = _) rfl (by omega) rfl) (l_q (q_load Tryz.isAgg31 rfl ((own_has ho (i := (j + k2)) (by omega) (hLd _ (by omega)))) rfl) ?_)))))))
        have hr19 := hos.rows.get (i := k) (by omega)
        obtain ⟨b18, o18, ha18, hh18⟩ := (Row.of_owns ho).at1 k ((L).getD k sv0) (getD_some (by omega))
        refine l_q (q_indexAddr1 Tryz.underlying56 Tryz.sizeOf31 rfl ha18 rfl (by omega) rfl) (l_o (o_store_own (f := SV.enc) L k ⟨(S.getD (j + k2) sv0).a, (S.getD (j + k2) sv0).c, (S.getD (j + k2) sv0).xs⟩ Tryz.sizeOf31 rfl ha18 rfl rfl (fun _ => rfl) ho (by omega) rfl ?_))
        intro w20 hz20 ho20 hG20
        replace hsz := Nat.le_trans hsz hG20.size
        replace hos := hos.kept ho (by decide) hG20
        replace hG0 := grown_trans hG0 hG20
        replace ho := ho20
        have hls20 : ((L).set k ⟨(S.getD (j + k2) sv0).a, (S.getD (j + k2) sv0).c, (S.getD (j + k2) sv0).xs⟩).length = (L).length := List.length_set
        refine l_nil (r_region' (l_q (qmi rfl rfl) (l_q (q_add rfl rfl (by omega) rfl) (l_q (qai rfl rfl) (l_nil (r_forget [(0, .slice _ _ _), (1, .func _ _ _), (5, .int _ _), (6, .slice _ _ _), (7, .int _ _)] ⟨rfl, rfl, rfl, rfl, rfl, trivial⟩ (fun e21 => (r_inBlock (r_region' (l_q (qmi rfl rfl) (l_q (q_add rfl rfl (by omega) rfl) (l_q (qai rfl rfl) (l_nil ?_)))))))))))))
        exact ih12 (k2 + 1, k + 1, (L).set k ⟨(S.getD (j + k2) sv0).a, (S.getD (j + k2) sv0).c, (S.getD (j + k2) sv0).xs⟩) _ _ ⟨⟨rfl, rfl, (vint_eq (by omega)), rfl, (vint_eq (by omega)), trivial⟩, (by omega), (by rw [List.length_set]; exact hLl), (set_above hLd), (ded_put hLl hk.2 hkS hk.1.1 hded (by rw [hkm] at g49; exact g49)), (sub_put hLl hk.2 hkS hsub), ho, hos, hG0, hsz⟩ (by first | omega | (dsimp only; omega))
       ·
        replace hc17 := dt (nf hc17)
        have g49 := hc17
        refine r_skip (r_inBlock (r_region' (l_q (qmi rfl rfl) (l_q (q_add rfl rfl (by omega) rfl) (l_q (qai rfl rfl) (l_nil ?_))))))
        exact ih12 (k2 + 1, k, L) _ _ ⟨⟨rfl, rfl, (vint_eq (by omega)), rfl, (vint_eq (by omega)), trivial⟩, (by omega), hLl, hLd, (ded_skip hkS hk.1.1 hded (by rw [hkm] at g49; exact g49)), hsub, ho, hos, hG0, hsz⟩ (by first | omega | (dsimp only; omega))
      ·
       replace hc13 := dlt hc13
       refine r_exit rfl (r_seq (r_region' (l_q (qms rfl rfl) (l_q (qmi rfl rfl) (l_q ((q_slice (lo := (k : Int)) (hi := (S.length : Int)) Tryz.underlying56 Tryz.sizeOf31 rfl rfl rfl (by omega) hcap rfl).cast (cut_cast (by omega))) (l_o (o_clear_own (L := L) (k := k) Tryz.underlying56 el31 rfl rfl rfl ho hLl (by omega) rfl ?_)))))))
       intro w22 hz22 ho22 hG22
       replace hsz := Nat.le_trans hsz hG22.size
       replace hos := hos.kept ho (by decide) hG22
       replace hG0 := grown_trans hG0 hG22
       replace ho := ho22
       refine l_nil (r_forget [(0, .slice _ _ _), (5, .int _ _)] ⟨rfl, rfl, trivial⟩ (fun e23 => (r_seq (r_region' (l_q (qms rfl rfl) (l_q (qmi rfl rfl) (l_q ((q_slice (lo := 0) (hi := (k : Int)) Tryz.underlying56 Tryz.sizeOf31 rfl rfl rfl (by omega) hcap rfl).cast (cuth_cast (by omega))) (l_q (qas rfl rfl) (l_nil (r_ret_ (vs := [.slice _ _ _]) rfl Tryz.func55 rfl (.nil _) ⟨rfl, trivial⟩ ?_))))))))))
       have hkk : j + k2 = S.length := by omega
       rw [hkk, List.take_length] at hded
       have hD : (L.take k ++ List.replicate (S.length - k) sv0).take k = L.take k := by rw [List.take_append_of_le_length (by rw [List.length_take]; omega), List.take_take, Nat.min_self]
       have hod := own_take (k := k) ho (by omega)
       rw [hD] at hod
       have hlk : k = (L.take k).length := by rw [List.length_take]; omega
       exact ⟨_, oc, L.take k, congrArg (fun z => Value.slice _ z _) hlk, hded, by rw [← hlk]; exact hod, fun s hs => hos s (hsub s hs), hG0⟩
    ·
     replace hc11 := df hc11
     have g28 := hc11
     refine r_skip (r_inBlock (r_region' (l_q (qmi rfl rfl) (l_q (q_add rfl rfl (by omega) rfl) (l_q (qai rfl rfl) (l_nil ?_))))))
     exact ih2 (j + 1) _ _ ⟨⟨rfl, rfl, (vint_eq (by omega)), trivial⟩, (by omega), (ded_step hj1 hjS hd0 (by rw [hjm] at g28; exact g28)), ho, hos, hG0, hsz⟩ (by first | omega | (dsimp only; omega))
   ·
    replace hc3 := dlt hc3
    refine r_exit rfl (r_seq (r_region' (l_q (qms rfl rfl) (l_q (qas rfl rfl) (l_nil (r_ret_ (vs := [.slice _ _ _]) rfl Tryz.func55 rfl (.nil _) ⟨rfl, trivial⟩ ?_))))))
    obtain rfl : j = S.length := by omega
    rw [List.take_length] at hd0
    exact ⟨_, oc, S, rfl, hd0.symm, ho, hos, hG0⟩
end Go.Proofs.YtbikicakdkbcgacGreat
