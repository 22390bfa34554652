/- Contracts. -/
import Derived.Test.YtgdanglidienmaaGreatRT
import Derived.Test.YtgdanglidienmaaGreatGvPut
set_option linter.unusedVariables false
set_option linter.unusedSimpArgs false
namespace Go.Proofs.YtgdanglidienmaaGreat
open Go Go.RowKit Go.Gv Go.Fl

theorem flat_len (M : List PV) : (M.flatMap PV.enc).length = M.length * 3 := by
  induction M with
  | nil => rfl
  | cons x M ih => rw [List.flatMap_cons, List.length_append, ih]; show 3 + _ = (M.length + 1) * 3; omega
section
variable {P : Program} {ops : Array Oper} {e : Env} {w : World} {d : Option Nat} {ty : TypeId} {pos : String} {af : Array Edge} {g : Option (Nat × Bool)}
/-- the people with another Most at one place -/
def mostAt (M : List PV) (i : Nat) (m : Int) : List PV := M.set i { M.getD i pv0 with m := m }
theorem most_flat : ∀ (M : List PV) (i : Nat) (m : Int), i < M.length → (M.flatMap PV.enc).set (i * 3 + 2) (vint m) = (mostAt M i m).flatMap PV.enc
  | [], _, _, h => absurd h (Nat.not_lt_zero _)
  | x :: M, 0, m, _ => rfl
  | x :: M, i + 1, m, h => by
    have ih := most_flat M i m (by simpa using h)
    show (x.enc ++ M.flatMap PV.enc).set ((i + 1) * 3 + 2) (vint m) = x.enc ++ (mostAt M i m).flatMap PV.enc
    rw [← ih, List.set_append_right _ _ (by show 3 ≤ _; omega)]
    congr 2
    show (i + 1) * 3 + 2 - 3 = _
    omega
theorem o_store_most {K : Value → World → Prop} (M : List PV) (i : Nat) (m : Int) {t el : TypeId} {x y : Operand} {b o n c base : Nat} {a : Option Addr} (hsz : ∀ w, (sizeOf t).run P w = .ok 1 w) (hx : ev e x = ptr b (o + i * 3 + 2)) (ha : a = some ⟨b, o, none⟩) (hy : ev e y = vint m)
    (hown : w.ownsRow base el 3 (.slice a n c) n (M.flatMap PV.enc)) (hi : i < M.length) (hw : wantedE ops e ⟨d, .store t x y, ty, pos, af, g⟩ = true)
    (h : ∀ w', w'.heap.size = w.heap.size → w'.ownsRow base el 3 (.slice a n c) n ((mostAt M i m).flatMap PV.enc) → w.grownBy w' (Value.ownBlock (.slice a n c)) → K undef w') : EffAt P ops e w ⟨d, .store t x y, ty, pos, af, g⟩ K :=
  o_store_ownc (j := i * 3 + 2) hsz (by rw [← Nat.add_assoc]; exact hx) ha hy rfl rfl hown (by rw [flat_len]; omega) hw (fun w' hz ho hG => h w' hz (by rw [← most_flat M i m hi]; exact ho) hG)
end

/-- up to k: the people with Most 0 if they are not of xs -/
def zeroM (xs : List Int) (i : Nat) (x : PV) : PV := if hasI xs (i : Int) = true then x else { x with m := 0 }
def OnlyAt (xs : List Int) (k : Nat) (pl M : List PV) : Prop := M.length = pl.length ∧ ∀ i, i < pl.length → M.getD i pv0 = if i < k then zeroM xs i (pl.getD i pv0) else pl.getD i pv0
theorem only_zero {xs : List Int} {pl : List PV} : OnlyAt xs 0 pl pl := ⟨rfl, fun i _ => by rw [if_neg (Nat.not_lt_zero _)]⟩
theorem only_yes {xs : List Int} {k : Nat} {pl M : List PV} (h : OnlyAt xs k pl M) (hk : hasI xs (k : Int) = true) : OnlyAt xs (k + 1) pl M := ⟨h.1, fun i hi => by
  rw [h.2 i hi]
  by_cases h1 : i < k
  · rw [if_pos h1, if_pos (by omega)]
  · rw [if_neg h1]
    by_cases h2 : i = k
    · subst h2; rw [if_pos (by omega), zeroM, if_pos hk]
    · rw [if_neg (by omega)]⟩
theorem only_no {xs : List Int} {k : Nat} {pl M : List PV} (h : OnlyAt xs k pl M) (hk : hasI xs (k : Int) = false) : OnlyAt xs (k + 1) pl (mostAt M k 0) := ⟨by unfold mostAt; rw [List.length_set]; exact h.1, fun i hi => by
  unfold mostAt
  rw [List.getD_eq_getElem?_getD, List.getElem?_set]
  by_cases h2 : k = i
  · subst h2
    rw [if_pos rfl, if_pos (by rw [h.1]; exact hi), if_pos (by omega)]
    show { M.getD k pv0 with m := 0 } = _
    rw [h.2 k hi, if_neg (by omega), zeroM, if_neg (by rw [hk]; decide)]
  · rw [if_neg h2, ← List.getD_eq_getElem?_getD, h.2 i hi]
    by_cases h1 : i < k
    · rw [if_pos h1, if_pos (by omega)]
    · rw [if_neg h1, if_neg (by omega)]⟩
theorem only_rows {w : World} {xs : List Int} {pl M : List PV} (h : OnlyAt xs pl.length pl M) (hr : RowsP w pl) : RowsP w M := fun x hx => by
  obtain ⟨i, hi, rfl⟩ := List.mem_iff_getElem.1 hx
  have hi2 : i < pl.length := by rw [← h.1]; exact hi
  have h1 := h.2 i hi2
  rw [if_pos hi2, List.getD_eq_getElem?_getD, List.getElem?_eq_getElem hi] at h1
  have h2 := hr _ (getD_lt (d := pv0) hi2)
  rw [show M[i] = zeroM xs i (pl.getD i pv0) from h1]
  unfold zeroM
  split
  · exact h2
  · exact h2
theorem only_big {nd xs : List Int} {pl M : List PV} {L : List SV} (h : OnlyAt xs pl.length pl M) (hb : PoBig nd pl L) : PoBig nd M L := ⟨hb.1, by rw [h.1]; exact hb.2.1, hb.2.2.1, hb.2.2.2.1, fun x hx => by
  obtain ⟨i, hi, rfl⟩ := List.mem_iff_getElem.1 hx
  have hi2 : i < pl.length := by rw [← h.1]; exact hi
  have h1 := h.2 i hi2
  rw [if_pos hi2, List.getD_eq_getElem?_getD, List.getElem?_eq_getElem hi] at h1
  have h2 := hb.2.2.2.2 _ (getD_lt (d := pv0) hi2)
  rw [show M[i] = zeroM xs i (pl.getD i pv0) from h1]
  unfold zeroM
  split
  · exact h2
  · exact h2⟩
section
variable {xs nd : List Int} {pl M : List PV} {L : List SV} {R : List (List Int)}
theorem cnt_zero {i : Nat} : cntA i R = 0 ↔ ∀ on ∈ R, hasI on (i : Int) = false := by
  unfold cntA
  rw [List.length_eq_zero_iff, List.filter_eq_nil_iff]
  constructor
  · intro h on hon; have := h on hon; simpa using this
  · intro h on hon; rw [h on hon]; decide
theorem per_zero {x : PV} {i : Nat} (h : cntA i R = 0) (hm : 0 ≤ x.m) : perX x i R = true := by
  unfold perX
  rw [Bool.and_eq_true, List.all_eq_true, h]
  refine ⟨fun a ha => ?_, decide_eq_true (by exact hm)⟩
  unfold okA
  rw [cnt_zero.1 h _ (getD_lt (d := []) (List.mem_range.1 ha))]; rfl
theorem per_most {x : PV} {i : Nat} : perX { x with m := 0 } i R = true ↔ cntA i R = 0 := by
  constructor
  · intro h
    unfold perX at h
    rw [Bool.and_eq_true, decide_eq_true_eq] at h
    have := h.2
    show cntA i R = 0
    have h2 : (cntA i R : Int) ≤ 0 := this
    omega
  · intro h; exact per_zero h (Int.le_refl _)
theorem rules_only (h : OnlyAt xs pl.length pl M) (hm : ∀ x ∈ pl, 0 ≤ x.m) (hR : ∀ on ∈ R, risB on (pl.length : Int) = true) : rulesX M R = true ↔ rulesX pl R = true ∧ ∀ on ∈ R, ∀ i ∈ on, i ∈ xs := by
  unfold rulesX
  rw [List.all_eq_true, List.all_eq_true, h.1]
  have key : ∀ k, k < pl.length → M.getD k pv0 = zeroM xs k (pl.getD k pv0) := fun k hk => by rw [h.2 k hk, if_pos hk]
  constructor
  · intro h1
    refine ⟨fun k hk => ?_, fun on hon i hi => ?_⟩
    · have hk2 := List.mem_range.1 hk
      have h2 := h1 k hk
      rw [key k hk2, zeroM] at h2
      split at h2
      · exact h2
      · exact per_zero (per_most.1 h2) (hm _ (getD_lt hk2))
    · have h3 := (ris_iff.1 (hR on hon)).2 i hi
      have h2 := h1 i.toNat (List.mem_range.2 (by omega))
      rw [key _ (by omega), zeroM] at h2
      have h4 : ((i.toNat : Nat) : Int) = i := by omega
      split at h2
      · rename_i h5; rw [h4] at h5; exact has_iff.1 h5
      · have h5 := cnt_zero.1 (per_most.1 h2) on hon
        rw [h4, has_iff.2 hi] at h5; cases h5
  · rintro ⟨h1, h2⟩ k hk
    have hk2 := List.mem_range.1 hk
    rw [key k hk2, zeroM]
    split
    · exact h1 k hk
    · rename_i h3
      refine per_most.2 (cnt_zero.2 fun on hon => ?_)
      rw [← Bool.not_eq_true]
      intro h4
      exact h3 (has_iff.2 (h2 on hon _ (has_iff.1 h4)))
theorem only_fault (h : OnlyAt xs pl.length pl M) (hok : faultP (po nd pl L) = 0) : faultP (po nd M L) = 0 := by
  unfold faultP po at hok ⊢
  simp only [List.length_map, h.1] at hok ⊢
  split at hok
  · cases hok
  · rename_i h1
    rw [if_neg h1]
    split at hok
    · rename_i h2
      rw [if_pos]
      simp only [Bool.and_eq_true] at h2 ⊢
      refine ⟨⟨h2.1.1, ?_⟩, h2.2⟩
      have h3 := h2.1.2
      rw [List.all_eq_true] at h3 ⊢
      intro q hq
      obtain ⟨x, hx, rfl⟩ := List.mem_map.1 hq
      obtain ⟨i, hi, rfl⟩ := List.mem_iff_getElem.1 hx
      have hi2 : i < pl.length := by rw [← h.1]; exact hi
      have h4 := h.2 i hi2
      rw [if_pos hi2, List.getD_eq_getElem?_getD, List.getElem?_eq_getElem hi] at h4
      rw [show M[i] = zeroM xs i (pl.getD i pv0) from h4]
      have h5 := h3 _ (List.mem_map.2 ⟨_, getD_lt (d := pv0) hi2, rfl⟩)
      unfold zeroM
      split
      · exact h5
      · unfold okPerson at h5 ⊢
        rw [Bool.and_eq_true] at h5 ⊢
        exact ⟨h5.1, rfl⟩
    · cases hok
/-- with some people alone there is a safe rota, or none, as those people can or not -/
theorem only_best (h : OnlyAt xs pl.length pl M) (hok : faultP (po nd pl L) = 0) (hx : risB xs (pl.length : Int) = true) : (bestR nd M L).2.2 = if canP nd pl (L.map (·.xs)) xs = true then 0 else 10 := by
  have hok2 := only_fault h hok
  obtain ⟨_, ⟨hp1, hp4⟩, _, _, hpp, _⟩ := po_ok hok
  have hsame : ∀ R, IsR nd pl.length R → (chn nd M (L.map (·.xs)) 0 stood0 R = true ↔ chn nd pl (L.map (·.xs)) 0 stood0 R = true ∧ ∀ on ∈ R, ∀ i ∈ on, i ∈ xs) := fun R hR => by
    have h1 := chn_safe (C := L.map (·.xs)) hok hR
    have h2 := chn_safe (C := L.map (·.xs)) hok2 (T := R) (by rw [h.1]; exact hR)
    rw [← h1, ← h2]
    unfold safeX
    rw [Bool.and_eq_true, Bool.and_eq_true, rules_only h (fun x hx => (hpp x hx).2.2.1) hR.2, and_assoc]
  split
  · rename_i h1
    obtain ⟨R, hR, hin, hc⟩ := (can_iff hok hx).1 h1
    rcases best_spec hok2 with ⟨_, h3⟩ | ⟨T, h3, _⟩
    · have := (hsame R hR).2 ⟨hc, hin⟩
      rw [h3 R (by rw [h.1]; exact hR)] at this; cases this
    · rw [h3]
  · rename_i h1
    rcases best_spec hok2 with ⟨h3, _⟩ | ⟨T, _, h4, h5, _⟩
    · rw [h3]
    · rw [h.1] at h4
      obtain ⟨h6, h7⟩ := (hsame T h4).1 h5
      exact absurd ((can_iff hok hx).2 ⟨T, h4, h7, h6⟩) h1
end

theorem el119 : Elem Tryz.prog 119 (.agg ⟨[.slice none 0 0, vint 0, vint 0]⟩) 3 40 := elem_of (by kernel_rfl) rfl (by decide)
theorem onlySome_ret (na : Option Addr) (nc : Nat) (nd : List Int) (pa : Option Addr) (pc : Nat) (pl : List PV) (ca : Option Addr) (cc : Nat) (L : List SV) (xa : Option Addr) (xc : Nat) (xs : List Int) (w : World) (hpo : PoAt w na nc nd pa pc pl ca cc L) (hbg : PoBig nd pl L) (hx : Row w xa xs.length xc 1 (xs.map vint)) (hxn : xs.length ≤ 2097152) : Ret Tryz.prog 47 [.agg ⟨[.slice na nd.length nc, .slice pa pl.length pc, .slice ca L.length cc]⟩, .slice xa xs.length xc] w (fun v w' => ∃ oa oc M, v = .agg ⟨[.slice na nd.length nc, .slice oa (List.length M) oc, .slice ca L.length cc]⟩ ∧ PoAt w' na nc nd oa oc M ca cc L ∧ OnlyAt xs pl.length pl M ∧ Ext w w') := by
 obtain ⟨hnl, hpll, hLl, hLs, hPb⟩ := id hbg
 have hB := Below.refl w.heap.size w
 have hsz : w.heap.size ≤ w.heap.size := Nat.le_refl _
 refine ret_of_runs (args := [_, _]) Tryz.func47 rfl (Nat.le_of_ble_eq_true rfl) (by kernel_rfl) ?_
 refine r_seq (r_region' ?_)
 refine l_o (o_boxt rfl rfl rfl ?_)
 intro b1 w1 hzl1 hzr1 _ hb1 hty_b1 hE1
 have hbs_b1 : w.heap.size ≤ b1 := Nat.le_trans hsz hzl1
 replace hB := below_ext hB hE1 hsz
 replace hsz := Nat.le_trans hsz hE1.size
 refine l_o (o_alloct Tryz.zeroValue26 rfl rfl ?_)
 intro b2 w2 hzl2 hzr2 _ hb2 hty_b2 hE2
 have hne_b1_b2 : b1 ≠ b2 := by have := hb1.lt; omega
 have hbs_b2 : w.heap.size ≤ b2 := Nat.le_trans hsz hzl2
 replace hB := below_ext hB hE2 hsz
 replace hb1 := hb1.ext hE2
 replace hty_b1 := hty_b1.ext hE2
 replace hsz := Nat.le_trans hsz hE2.size
 refine l_nil (r_seq (r_region' ?_))
 refine l_o (o_buildSlice (el := 119) (cs := []) Tryz.underlying23 el119 (by decide) (by kernel_rfl) rfl (by decide) rfl ?_)
 intro b3 w3 hzl3 hzr3 _ hb3 hE3 ho3
 have hne_b1_b3 : b1 ≠ b3 := by have := hb1.lt; omega
 have hne_b2_b3 : b2 ≠ b3 := by have := hb2.lt; omega
 have hbs_b3 : w.heap.size ≤ b3 := Nat.le_trans hsz hzl3
 replace hB := below_ext hB hE3 hsz
 replace hb1 := hb1.ext hE3
 replace hty_b1 := hty_b1.ext hE3
 replace hb2 := hb2.ext hE3
 replace hty_b2 := hty_b2.ext hE3
 replace hsz := Nat.le_trans hsz hE3.size
 refine l_q (q_fieldAddr (o' := 1) rfl fld26_1 rfl) ?_
 refine l_q (q_load Tryz.isAgg23 rfl ((hb1.has (o := 1) rfl)) rfl) ?_
 refine l_o (o_append_wide PV.one ([]) (pl) Tryz.underlying23 el119 rfl rfl ho3 rfl (hpo.rpl.below hB) (by (try simp only [List.length_append, List.length_cons, List.length_nil, List.length_take, List.length_drop, List.length_replicate]); omega) (by omega) rfl ?_)
 intro a5 c5 w5 hz5 ho5 hG5
 replace hB := below_own hB hG5 ho3 (by omega) hsz
 replace hsz := Nat.le_trans hsz hG5.size
 replace hb1 := hb1.step hG5 (own_ty_ne ho3 hty_b1 (by decide))
 replace hb2 := hb2.step hG5 (own_ty_ne ho3 hty_b2 (by decide))
 replace hty_b1 := TyAt.own hty_b1 ho3 hG5 (by decide)
 replace hty_b2 := TyAt.own hty_b2 ho3 hG5 (by decide)
 refine l_q (q_assign (v := .slice _ _ _) rfl rfl) ?_
 refine l_nil (r_seq (r_seq ?_))
 have hop := own_mono ho5 (show w.heap.size ≤ _ by omega)
 simp only [List.nil_append] at hop
 refine r_region' ?_
 refine l_q (q_assign (v := .int _ _) rfl rfl) ?_
 refine l_nil (r_block ?_)
 refine r_rounds (α := Nat × (List PV)) (fun ⟨k, M⟩ e wl => Knows e [(1, .slice xa xs.length xc), (2, ptr b1 0), (4, ptr b2 0), (5, .slice a5 pl.length c5), (6, vint (k : Int))] ∧ (k ≤ pl.length) ∧ (OnlyAt xs k pl M) ∧ (wl.ownsRow w.heap.size 119 3 (.slice a5 pl.length c5) pl.length (M.flatMap PV.enc)) ∧ (Blk wl b1 [.slice na nd.length nc, .slice pa pl.length pc, .slice ca L.length cc]) ∧ (TyAt wl b1 26) ∧ (Blk wl b2 [.slice none 0 0, .slice none 0 0, .slice none 0 0]) ∧ (TyAt wl b2 26) ∧ (w.heap.size ≤ wl.heap.size) ∧ (Below w.heap.size w wl)) (fun ⟨k, M⟩ => pl.length - k) (0, pl) ?_ ?_
 ·
  exact ⟨⟨rfl, rfl, rfl, rfl, rfl, trivial⟩, (Nat.zero_le _), only_zero, hop, hb1, hty_b1, hb2, hty_b2, hsz, hB⟩
 ·
  rintro ⟨k, M⟩ el6 wl6 ⟨hkn, hk, hM, hop, hb1, hty_b1, hb2, hty_b2, hsz, hB⟩ ih6
  obtain ⟨e6, rfl⟩ := knows_env hkn
  refine r_seq (r_seq (r_region' ?_))
  refine l_q (q_move (v := .int _ _) rfl rfl) ?_
  refine l_q (q_move (v := .slice _ _ _) rfl rfl) ?_
  refine l_q (q_len rfl Tryz.underlying23 rfl rfl) ?_
  refine l_q (q_lss rfl rfl rfl) ?_
  refine l_nil ?_
  refine r_cond rfl (fun hc7 => ?_) (fun hc7 => ?_)
  ·
   replace hc7 := dt hc7
   have hkp : k < pl.length := by omega
   have hMl := hM.1
   refine r_skip (r_seq (r_block (r_seq (r_region' ?_))))
   refine l_q (q_move (v := .slice _ _ _) rfl rfl) ?_
   refine l_q (q_move (v := .int _ _) rfl rfl) ?_
   refine l_o (o_call Tryz.call44 rfl (has10_ret _ _ xs _ _ (hx.below hB) (by omega)) rfl ?_)
   rintro _ w8 ⟨rfl, hE8⟩
   replace hB := below_ext hB hE8 hsz
   replace hb1 := hb1.ext hE8
   replace hty_b1 := hty_b1.ext hE8
   replace hb2 := hb2.ext hE8
   replace hty_b2 := hty_b2.ext hE8
   replace hop := own_ext hop hE8
   replace hsz := Nat.le_trans hsz hE8.size
   refine l_q (q_not rfl rfl) ?_
   refine l_nil ?_
   refine r_cond rfl (fun hc9 => ?_) (fun hc9 => ?_)
   ·
    replace hc9 := nt hc9
    have g20 := hc9
    refine r_region' ?_
    refine l_q (q_move (v := .slice _ _ _) rfl rfl) ?_
    refine l_q (q_move (v := .int _ _) rfl rfl) ?_
    obtain ⟨b10, o10, ha10, hh10⟩ := (Row.of_owns hop).at (by decide) k (by omega)
    refine l_q (q_indexAddr Tryz.underlying23 Tryz.sizeOf119 rfl ha10 rfl (by omega) rfl) ?_
    refine l_q (q_fieldAddr (o' := 2) rfl fld119_2 rfl) ?_
    refine l_o (o_store_most M k 0 Tryz.sizeOf3 rfl ha10 rfl hop (by omega) rfl ?_)
    intro w11 hz11 ho11 hG11
    replace hB := below_own hB hG11 hop (by omega) hsz
    replace hsz := Nat.le_trans hsz hG11.size
    replace hb1 := hb1.step hG11 (own_ty_ne hop hty_b1 (by decide))
    replace hb2 := hb2.step hG11 (own_ty_ne hop hty_b2 (by decide))
    replace hty_b1 := TyAt.own hty_b1 hop hG11 (by decide)
    replace hty_b2 := TyAt.own hty_b2 hop hG11 (by decide)
    replace hop := ho11
    refine l_nil ?_
    refine r_forget [(1, .slice _ _ _), (2, .pointer _), (4, .pointer _), (5, .slice _ _ _), (6, .int _ _)] ⟨rfl, rfl, rfl, rfl, rfl, trivial⟩ (fun e12 => ?_)
    refine r_inBlock (r_region' ?_)
    refine l_q (q_move (v := .int _ _) rfl rfl) ?_
    refine l_q (q_add rfl rfl (by omega) rfl) ?_
    refine l_q (q_assign (v := .int _ _) rfl rfl) ?_
    refine l_nil ?_
    exact ih6 (k + 1, mostAt M k 0) _ _ ⟨⟨rfl, rfl, rfl, rfl, (vint_eq (by omega)), trivial⟩, (by omega), (only_no hM g20), hop, hb1, hty_b1, hb2, hty_b2, hsz, hB⟩ (by first | omega | (dsimp only; omega))
   ·
    replace hc9 := nf hc9
    have g20 := hc9
    refine r_skip (r_inBlock (r_region' ?_))
    refine l_q (q_move (v := .int _ _) rfl rfl) ?_
    refine l_q (q_add rfl rfl (by omega) rfl) ?_
    refine l_q (q_assign (v := .int _ _) rfl rfl) ?_
    refine l_nil ?_
    refine r_forget [(1, .slice _ _ _), (2, .pointer _), (4, .pointer _), (5, .slice _ _ _), (6, .int _ _)] ⟨rfl, rfl, rfl, rfl, rfl, trivial⟩ (fun e13 => ?_)
    exact ih6 (k + 1, M) _ _ ⟨⟨rfl, rfl, rfl, rfl, (vint_eq (by omega)), trivial⟩, (by omega), (only_yes hM g20), hop, hb1, hty_b1, hb2, hty_b2, hsz, hB⟩ (by first | omega | (dsimp only; omega))
  ·
   replace hc7 := dlt hc7
   refine r_exit rfl ?_
   refine r_seq (r_region' ?_)
   refine l_q (q_move (v := .slice _ _ _) rfl rfl) ?_
   refine l_q (q_fieldAddr (o' := 1) rfl fld26_1 rfl) ?_
   refine l_o (o_storet (vs := [.slice a5 pl.length c5]) (cs' := [.slice na nd.length nc, .slice a5 pl.length c5, .slice ca L.length cc]) Tryz.sizeOf23 rfl rfl rfl rfl hb1 (Nat.le_of_ble_eq_true rfl) rfl rfl ?_)
   intro w14 hz14 hb1 hT14 hG14
   replace hB := below_upd hB hG14 hsz (by omega)
   replace hsz : w.heap.size ≤ w14.heap.size := by rw [hz14]; exact hsz
   replace hb2 := hb2.upd hG14 (by omega)
   replace hty_b2 := hty_b2.upd hG14 (by omega)
   replace hop := own_ty_upd hop hty_b1 hG14 (by decide)
   refine l_nil (r_seq (r_region' ?_))
   refine l_q (q_load_agg (n := 3) Tryz.isAgg26 Tryz.sizeOf26 rfl ((hb1.cells' (cs' := [_, _, _]) 0 3 rfl)) rfl rfl) ?_
   refine l_o (o_storet (vs := [.slice na nd.length nc, .slice a5 pl.length c5, .slice ca L.length cc]) (cs' := [.slice na nd.length nc, .slice a5 pl.length c5, .slice ca L.length cc]) Tryz.sizeOf26 rfl rfl rfl rfl hb2 (Nat.le_of_ble_eq_true rfl) rfl rfl ?_)
   intro w15 hz15 hb2 hT15 hG15
   replace hB := below_upd hB hG15 hsz (by omega)
   replace hsz : w.heap.size ≤ w15.heap.size := by rw [hz15]; exact hsz
   replace hop := own_ty_upd hop hty_b2 hG15 (by decide)
   refine l_nil ?_
   refine r_forget [(4, .pointer _)] ⟨rfl, trivial⟩ (fun e16 => ?_)
   refine r_ret_ (vs := [.agg _]) rfl Tryz.func47 rfl (.nil _) ⟨⟨_, _, rfl, run_loadVarA Tryz.isAgg26 Tryz.sizeOf26 (hb2.cells' (cs' := [_, _, _]) 0 3 rfl) rfl⟩, trivial⟩ ?_
   obtain rfl : k = pl.length := by omega
   exact ⟨_, _, M, congrArg (fun z => Value.agg ⟨[.slice na nd.length nc, .slice _ z _, .slice ca L.length cc]⟩) hM.1.symm, ⟨hpo.rnd.below hB, hM.1 ▸ Row.of_owns hop, only_rows hM (hpo.rplr.below hB), hpo.rC.below hB, hpo.rCr.below hB⟩, hM, Ext.of_below hB⟩
end Go.Proofs.YtgdanglidienmaaGreat
