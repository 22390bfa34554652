/- Contracts. -/
import Derived.Test.YtfbjllabgkabkaaC2
import Derived.Test.YtfbjllabgkabkaaF17
set_option linter.unusedVariables false
set_option linter.unusedSimpArgs false
namespace Go.Proofs.Ytfbjllabgkabkaa
open Go Go.RowKit Go.Gv Go.Fl

theorem range_snoc (q : Nat → Int) (k : Nat) : (List.range k).map q ++ [q k] = (List.range (k + 1)).map q := by rw [List.range_succ, List.map_append]; rfl
def keyAt (ks : List K3) (ds : List Int) (d : Nat) : K3 := ks.getD (ds.getD d 0).toNat k0
theorem key_mem {ks : List K3} {ds : List Int} {d : Nat} (h : ∀ x ∈ ds, 0 ≤ x ∧ x ≤ (ks.length : Int) - 1) (hd : d < ds.length) : keyAt ks ds d ∈ ks := by
  have := h _ (getD_lt (l := ds) (d := 0) hd)
  exact getD_lt (by omega)
def codeI (S : Int) (k : K3) (xs : List Int) (i : Nat) : Int := (k.m * xs.getD i 0 + k.a + (i : Int) * k.s) % S
def decI (S : Int) (k : K3) (xs : List Int) (i : Nat) : Int := (((xs.getD i 0 + (S - k.a) % S) + (i : Int) * (S - k.s)) % S) * invI S k.m % S
def headL (S : Int) (ks : List K3) (ds : List Int) (d : Nat) (xs : List Int) : List Int := [(ds.getD d 0 + (d : Int)) % (ks.length : Int)] ++ (List.range xs.length).map (codeI S (keyAt ks ds d) xs)
def codeL (S : Int) (ks : List K3) (ds : List Int) (d : Nat) (xs : List Int) : List Int := headL S ks ds d xs ++ [sumN (headL S ks ds d xs) (headL S ks ds d xs).length % S]
theorem headL_len {S : Int} {ks : List K3} {ds : List Int} {d : Nat} {xs : List Int} : (headL S ks ds d xs).length = xs.length + 1 := by
  unfold headL; simp
theorem in41 {S x : Int} (hS : 13 ≤ S ∧ S ≤ 41) (h : inS S x = true) : 0 ≤ x ∧ x ≤ 41 := by have := inS_iff.1 h; omega
theorem headL_in {S : Int} {ks : List K3} {ds : List Int} {d : Nat} {xs : List Int} (hS : 13 ≤ S ∧ S ≤ 41) (hk : 0 < ks.length) (h5 : ks.length ≤ 5) : ∀ x ∈ headL S ks ds d xs, 0 ≤ x ∧ x ≤ S - 1 := by
  intro x hx
  unfold headL at hx
  rcases List.mem_append.1 hx with h | h
  · have h := List.mem_singleton.1 h
    subst h
    have h1 := Int.emod_nonneg (ds.getD d 0 + (d : Int)) (show (ks.length : Int) ≠ 0 by omega)
    have h2 := Int.emod_lt_of_pos (ds.getD d 0 + (d : Int)) (show (0 : Int) < ks.length by omega)
    omega
  · obtain ⟨i, _, rfl⟩ := List.mem_map.1 h
    unfold codeI
    have h1 := Int.emod_nonneg ((keyAt ks ds d).m * xs.getD i 0 + (keyAt ks ds d).a + (i : Int) * (keyAt ks ds d).s) (show S ≠ 0 by omega)
    have h2 := Int.emod_lt_of_pos ((keyAt ks ds d).m * xs.getD i 0 + (keyAt ks ds d).a + (i : Int) * (keyAt ks ds d).s) (show 0 < S by omega)
    omega
theorem headL_rng {S : Int} {ks : List K3} {ds : List Int} {d : Nat} {xs : List Int} (hS : 13 ≤ S ∧ S ≤ 41) (hk : 0 < ks.length) (h5 : ks.length ≤ 5) : ∀ x ∈ headL S ks ds d xs, 0 ≤ x ∧ x ≤ 41 := fun x hx => by
  have := headL_in hS hk h5 x hx
  omega
def decR (S : Int) (ks : List K3) (ds : List Int) (d : Nat) (xs : List Int) : Int × List Int :=
  if ¬ xs.getD 0 0 = (ds.getD d 0 + (d : Int)) % (ks.length : Int) then (8, [])
  else if ¬ xs.getD (xs.length - 1) 0 = sumN (xs.take (xs.length - 1)) (xs.take (xs.length - 1)).length % S then (11, [])
  else (0, (List.range ((xs.take (xs.length - 1)).drop 1).length).map (decI S (keyAt ks ds d) ((xs.take (xs.length - 1)).drop 1)))
theorem len_td (xs : List Int) : ((xs.take (xs.length - 1)).drop 1).length = xs.length - 1 - 1 := by rw [List.length_drop, List.length_take]; omega
theorem del_open {w : World} {B0 el g n cap : Nat} {xs : List Int} (h : w.ownsRow B0 el 1 (.slice (some ⟨g, 0, none⟩) n cap) n (xs.map vint)) : ∃ cs, Blk w g cs ∧ xs.length ≤ cs.length ∧ ∀ j, j < xs.length → ∃ v, cs[j]? = some (vint v) := by
  have hl := h.1
  rw [List.length_map, Nat.mul_one] at hl
  rcases h.2 with ⟨h0, _⟩ | ⟨g', cap', cur, h1, _, h3, h4, _, h6, h7⟩
  · simp at h0
  · injection h1 with h8 h9 h10
    injection h8 with h8
    injection h8 with h8
    subst h8
    refine ⟨cur.toList, ⟨_, h3⟩, by simp; omega, fun j hj => ⟨xs.getD j 0, ?_⟩⟩
    have h9 := congrArg (fun l => l[j]?) h7
    simp only [Nat.mul_one] at h9
    rw [List.getElem?_take, if_pos (by omega)] at h9
    rw [h9, List.getElem?_map, List.getElem?_eq_getElem hj, List.getD_eq_getElem?_getD, List.getElem?_eq_getElem hj]; rfl
theorem del_set {n o : Nat} {x : Int} {cs : List Value} (h : n ≤ cs.length ∧ ∀ j, j < n → ∃ v, cs[j]? = some (vint v)) : n ≤ (cs.set o (vint x)).length ∧ ∀ j, j < n → ∃ v, (cs.set o (vint x))[j]? = some (vint v) := by
  refine ⟨by rw [List.length_set]; exact h.1, fun j hj => ?_⟩
  by_cases hoj : o = j
  · subst hoj
    exact ⟨x, List.getElem?_set_self (by omega)⟩
  · rw [List.getElem?_set_ne hoj]; exact h.2 j hj
theorem idx_nat {p : Nat → Bool} {n : Nat} (h : ¬ idxI p n = -1) : ∃ i : Nat, idxI p n = (i : Int) ∧ i < n := by
  unfold idxI at h ⊢
  cases hf : (List.range n).find? p with
  | none => rw [hf] at h; exact absurd rfl h
  | some i => exact ⟨i, rfl, List.mem_range.1 (List.mem_of_find?_eq_some hf)⟩
theorem del_lo {b n c i : Nat} (hi : i < n) (hc : n ≤ c) : Value.slice (if c = (i : Int).toNat then some ⟨b, 0, none⟩ else (some ⟨b, 0, none⟩ : Option Addr).map (·.add ((i : Int).toNat * 1))) ((n : Int).toNat - (i : Int).toNat) (c - (i : Int).toNat) = .slice (some ⟨b, i, none⟩) (n - i) (c - i) := by
  simp only [Int.toNat_natCast]
  rw [if_neg (by omega)]
  simp [Addr.add]
  intro h; exact h.symm
theorem dec_8 {S : Int} {ks : List K3} {ds : List Int} {d : Nat} {xs : List Int} (h : ¬ xs.getD 0 0 = (ds.getD d 0 + (d : Int)) % (ks.length : Int)) : decR S ks ds d xs = (8, []) := by unfold decR; rw [if_pos h]
theorem dec_11 {S : Int} {ks : List K3} {ds : List Int} {d : Nat} {xs : List Int} (h : xs.getD 0 0 = (ds.getD d 0 + (d : Int)) % (ks.length : Int)) (h2 : ¬ xs.getD (xs.length - 1) 0 = sumN (xs.take (xs.length - 1)) (xs.take (xs.length - 1)).length % S) : decR S ks ds d xs = (11, []) := by
  unfold decR; rw [if_neg (fun hn => hn h), if_pos h2]
theorem dec_0 {S : Int} {ks : List K3} {ds : List Int} {d : Nat} {xs : List Int} (h : xs.getD 0 0 = (ds.getD d 0 + (d : Int)) % (ks.length : Int)) (h2 : xs.getD (xs.length - 1) 0 = sumN (xs.take (xs.length - 1)) (xs.take (xs.length - 1)).length % S) : decR S ks ds d xs = (0, (List.range ((xs.take (xs.length - 1)).drop 1).length).map (decI S (keyAt ks ds d) ((xs.take (xs.length - 1)).drop 1))) := by
  unfold decR; rw [if_neg (fun hn => hn h), if_neg (fun hn => hn h2)]

theorem fld66_0 (w : World) (b o : Nat) : (Instr.fieldAt 66 (ptr b o) 0).run Try.prog w = .ok (ptr b (o + 0)) w := by
  simp [Instr.fieldAt, run_underlying Try.underlying66, fieldPlace, Instr.sureAddr, Try.sizeOf63, Addr.add_lit]
theorem turned_ret (S W : Int) (ka : Option Addr) (kn kc : Nat) (da : Option Addr) (dn dc : Nat) (mu ad st : Int) (g : FuncId) (q : Nat → Int) (xa : Option Addr) (xc : Nat) (xs : List Int) (w : World) (hin : ∀ args w, (callFunc g args).run Try.prog w = .ok (.enter g args) w) (hq : ∀ i : Nat, i < xs.length → ∀ w', Ext w w' → Ret Try.prog g [.agg ⟨[vint S, vint W, .slice ka kn kc, .slice da dn dc]⟩, .agg ⟨[vint mu, vint ad, vint st]⟩, vint (xs.getD i 0), vint (i : Int)] w' (fun v w'' => v = vint (q i) ∧ Ext w' w'')) (hx : Row w xa xs.length xc 1 (xs.map vint)) (hxn : xs.length ≤ 2097152) : Ret Try.prog 25 [.agg ⟨[vint S, vint W, .slice ka kn kc, .slice da dn dc]⟩, .agg ⟨[.func (.func g) ⟨[]⟩ ⟨[]⟩]⟩, .agg ⟨[vint mu, vint ad, vint st]⟩, .slice xa xs.length xc] w (fun v w' => ∃ ra0 rc0, v = .slice ra0 ((List.range xs.length).map q).length rc0 ∧ w'.ownsRow w.heap.size 3 1 (.slice ra0 ((List.range xs.length).map q).length rc0) ((List.range xs.length).map q).length (((List.range xs.length).map q).map vint) ∧ Ext w w') := by
  have hB := Below.refl w.heap.size w
  have hsz : w.heap.size ≤ w.heap.size := Nat.le_refl _
  refine ret_of_runs (args := [_, _, _, _]) Try.func25 rfl (Nat.le_of_ble_eq_true rfl) (by kernel_rfl) ?_
  refine r_seq ?_
  refine r_region' ?_
  refine l_o (o_box rfl rfl rfl ?_)
  intro b1 w1 hzl1 hzr1 _ hb1 hE1
  have hbs_b1 : w.heap.size ≤ b1 := Nat.le_trans hsz hzl1
  replace hB := below_ext hB hE1 hsz
  replace hsz := Nat.le_trans hsz hE1.size
  refine l_o (o_box rfl rfl rfl ?_)
  intro b2 w2 hzl2 hzr2 _ hb2 hE2
  have hne_b1_b2 : b1 ≠ b2 := by have := hb1.lt; omega
  have hbs_b2 : w.heap.size ≤ b2 := Nat.le_trans hsz hzl2
  replace hB := below_ext hB hE2 hsz
  replace hb1 := hb1.ext hE2
  replace hsz := Nat.le_trans hsz hE2.size
  refine l_o (o_box rfl rfl rfl ?_)
  intro b3 w3 hzl3 hzr3 _ hb3 hE3
  have hne_b1_b3 : b1 ≠ b3 := by have := hb1.lt; omega
  have hne_b2_b3 : b2 ≠ b3 := by have := hb2.lt; omega
  have hbs_b3 : w.heap.size ≤ b3 := Nat.le_trans hsz hzl3
  replace hB := below_ext hB hE3 hsz
  replace hb1 := hb1.ext hE3
  replace hb2 := hb2.ext hE3
  replace hsz := Nat.le_trans hsz hE3.size
  refine l_q (q_assign (v := .slice _ _ _) rfl rfl) ?_
  refine l_nil ?_
  refine r_forget [(3, .slice _ _ _), (4, .pointer _), (5, .pointer _), (6, .pointer _), (8, .slice _ _ _)] ⟨rfl, rfl, rfl, rfl, rfl, trivial⟩ (fun e4 => ?_)
  refine r_seq ?_
  refine r_seq ?_
  have hlt_b1 := hb1.lt
  have hlt_b2 := hb2.lt
  have hlt_b3 := hb3.lt
  refine r_region' ?_
  refine l_q (q_move (v := .slice _ _ _) rfl rfl) ?_
  have hbl_b1 := hb1.lt
  have hbl_b2 := hb2.lt
  have hbl_b3 := hb3.lt
  refine l_q (q_len rfl Try.underlying26 rfl rfl) ?_
  refine l_q (q_move (v := .int _ _) rfl rfl) ?_
  refine l_nil ?_
  refine r_forget [(4, .pointer _), (5, .pointer _), (6, .pointer _), (8, .slice _ _ _), (11, .slice _ _ _), (12, .int _ _), (13, .int _ _)] ⟨rfl, rfl, rfl, rfl, rfl, rfl, rfl, trivial⟩ (fun e5 => ?_)
  refine r_block ?_
  refine r_rounds (α := Nat × (Option Addr) × Nat) (fun ⟨k, oa, oc⟩ e wl => Knows e [(4, ptr b1 0), (5, ptr b2 0), (6, ptr b3 0), (8, .slice oa (((List.range k).map q).length) oc), (11, .slice xa xs.length xc), (12, vint (xs.length : Int)), (13, vint (k : Int))] ∧ (k ≤ xs.length) ∧ (wl.ownsRow (b3 + 1) 3 1 (.slice oa (((List.range k).map q).length) oc) (((List.range k).map q).length) (((List.range k).map q).map vint)) ∧ (Blk wl b1 [vint S, vint W, .slice ka kn kc, .slice da dn dc]) ∧ (Blk wl b2 [.func (.func g) ⟨[]⟩ ⟨[]⟩]) ∧ (Blk wl b3 [vint mu, vint ad, vint st]) ∧ (w.heap.size ≤ wl.heap.size) ∧ (Below w.heap.size w wl)) (fun ⟨k, oa, oc⟩ => xs.length - k) (0, none, 0) ?_ ?_
  · skip
    exact ⟨⟨rfl, rfl, rfl, rfl, rfl, rfl, rfl, trivial⟩, (Nat.zero_le _), (World.ownsRow_nil _ _ _ _), hb1, hb2, hb3, hsz, hB⟩
  · skip
    rintro ⟨k, oa, oc⟩ el6 wl6 ⟨hkn, hkk, ho, hb1, hb2, hb3, hsz, hB⟩ ih6
    obtain ⟨e6, rfl⟩ := knows_env hkn
    refine r_seq ?_
    refine r_region' ?_
    refine l_q (q_lss rfl rfl rfl) ?_
    refine l_nil ?_
    refine r_seq ?_
    refine r_cond rfl (fun hc7 => ?_) (fun hc7 => ?_)
    · skip
      try simp only [decide_eq_true_eq, decide_eq_false_iff_not, Bool.not_eq_true', Bool.not_eq_false', Bool.not_not, Bool.not_true, Bool.not_false, Bool.not_eq_true, Bool.not_eq_false, Int.not_lt, Int.not_le, Bool.and_eq_true, Bool.or_eq_true, Bool.and_eq_false_iff, Bool.or_eq_false_iff] at hc7
      refine r_skip ?_
      refine r_seq ?_
      refine r_block ?_
      refine r_seq ?_
      refine r_region' ?_
      refine l_q (q_move (v := .int _ _) rfl rfl) ?_
      obtain ⟨b8, o8, ha8, hh8⟩ := (hx.below hB).at1 k ((xs).getD k 0) (getD_some (by omega))
      refine l_q (q_indexAddr1 Try.underlying26 Try.sizeOf3 rfl ha8 rfl (by omega) rfl) ?_
      refine l_q (q_load Try.isAgg3 rfl (hh8) rfl) ?_
      refine l_q (q_assign (v := .int _ _) rfl rfl) ?_
      refine l_q (q_assign (v := .int _ _) rfl rfl) ?_
      refine l_nil ?_
      refine r_forget [(4, .pointer _), (5, .pointer _), (6, .pointer _), (8, .slice _ _ _), (9, .int _ _), (10, .int _ _), (11, .slice _ _ _), (12, .int _ _), (13, .int _ _)] ⟨rfl, rfl, rfl, rfl, rfl, rfl, rfl, rfl, rfl, trivial⟩ (fun e9 => ?_)
      refine r_region' ?_
      refine l_q (q_move (v := .slice _ _ _) rfl rfl) ?_
      refine l_q (q_fieldAddr (o' := 0) rfl fld66_0 rfl) ?_
      refine l_q (q_load Try.isAgg63 rfl ((hb2.has (o := 0) rfl)) rfl) ?_
      refine l_q (q_load_agg (n := 4) Try.isAgg41 Try.sizeOf41 rfl ((hb1.cells' (cs' := [_, _, _, _]) 0 4 rfl)) rfl rfl) ?_
      refine l_q (q_load_agg (n := 3) Try.isAgg54 Try.sizeOf54 rfl ((hb3.cells' (cs' := [_, _, _]) 0 3 rfl)) rfl rfl) ?_
      refine l_q (q_move (v := .int _ _) rfl rfl) ?_
      refine l_q (q_move (v := .int _ _) rfl rfl) ?_
      have hbl_b1 := hb1.lt
      have hbl_b2 := hb2.lt
      have hbl_b3 := hb3.lt
      refine l_o (o_callv (f := g) (fst := []) (cap := []) rfl hin rfl (hq k (by omega) _ (Ext.of_below hB)) rfl ?_)
      rintro _ w10 ⟨rfl, hE10⟩
      replace hB := below_ext hB hE10 hsz
      replace hb1 := hb1.ext hE10
      replace hb2 := hb2.ext hE10
      replace hb3 := hb3.ext hE10
      replace ho := own_ext ho hE10
      replace hsz := Nat.le_trans hsz hE10.size
      have hbl_b1 := hb1.lt
      have hbl_b2 := hb2.lt
      have hbl_b3 := hb3.lt
      refine l_o (o_buildSlice (el := 3) (cs := [vint (q k)]) Try.underlying26 el3 (by decide) (by kernel_rfl) rfl (by decide) rfl ?_)
      intro b11 w11 hzl11 hzr11 _ hb11 hE11 ho11
      have hne_b1_b11 : b1 ≠ b11 := by have := hb1.lt; omega
      have hne_b2_b11 : b2 ≠ b11 := by have := hb2.lt; omega
      have hne_b3_b11 : b3 ≠ b11 := by have := hb3.lt; omega
      have hbs_b11 : w.heap.size ≤ b11 := Nat.le_trans hsz hzl11
      replace hB := below_ext hB hE11 hsz
      replace hb1 := hb1.ext hE11
      replace hb2 := hb2.ext hE11
      replace hb3 := hb3.ext hE11
      replace ho := own_ext ho hE11
      replace hsz := Nat.le_trans hsz hE11.size
      replace ho11 := own_mono ho11 (show b3 + 1 ≤ _ by omega)
      have hbl_b1 := hb1.lt
      have hbl_b2 := hb2.lt
      have hbl_b3 := hb3.lt
      refine l_o (o_append_map (f := vint) ((List.range k).map q) ([q k]) Try.underlying26 el3 rfl rfl ho rfl (Row.of_owns ho11) (fun _ => rfl) (by simp only [List.length_map, List.length_range, List.length_cons, List.length_nil]; omega) (by omega) rfl ?_)
      intro a12 c12 w12 hz12 ho12 hG12
      replace hB := below_own hB hG12 ho (by omega) hsz
      replace hsz := Nat.le_trans hsz hG12.size
      replace hb1 := hb1.step hG12 (own_ne ho (by omega))
      replace hb2 := hb2.step hG12 (own_ne ho (by omega))
      replace hb3 := hb3.step hG12 (own_ne ho (by omega))
      refine l_q (q_assign (v := .slice _ _ _) rfl rfl) ?_
      refine l_nil ?_
      refine r_forget [(4, .pointer _), (5, .pointer _), (6, .pointer _), (8, .slice _ _ _), (11, .slice _ _ _), (12, .int _ _), (13, .int _ _)] ⟨rfl, rfl, rfl, rfl, rfl, rfl, rfl, trivial⟩ (fun e13 => ?_)
      refine r_inBlock ?_
      refine r_region' ?_
      refine l_q (q_add rfl rfl (by omega) rfl) ?_
      refine l_q (q_move (v := .int _ _) rfl rfl) ?_
      refine l_nil ?_
      refine r_forget [(4, .pointer _), (5, .pointer _), (6, .pointer _), (8, .slice _ _ _), (11, .slice _ _ _), (12, .int _ _), (13, .int _ _)] ⟨rfl, rfl, rfl, rfl, rfl, rfl, rfl, trivial⟩ (fun e14 => ?_)
      have hst := range_snoc q k
      exact ih6 (k + 1, a12, c12) _ _ ⟨⟨rfl, rfl, rfl, (congrArg (fun z => Value.slice _ (List.length z) _) hst), rfl, rfl, by first | rfl | exact vint_eq (by omega), trivial⟩, (by omega), (hst ▸ ho12), hb1, hb2, hb3, hsz, hB⟩ (by first | omega | (dsimp only; omega))
    · skip
      try simp only [decide_eq_true_eq, decide_eq_false_iff_not, Bool.not_eq_true', Bool.not_eq_false', Bool.not_not, Bool.not_true, Bool.not_false, Bool.not_eq_true, Bool.not_eq_false, Int.not_lt, Int.not_le, Bool.and_eq_true, Bool.or_eq_true, Bool.and_eq_false_iff, Bool.or_eq_false_iff] at hc7
      refine r_exit rfl ?_
      refine r_seq ?_
      refine r_region' ?_
      refine l_q (q_move (v := .slice _ _ _) rfl rfl) ?_
      refine l_q (q_assign (v := .slice _ _ _) rfl rfl) ?_
      refine l_nil ?_
      refine r_forget [(8, .slice _ _ _)] ⟨rfl, trivial⟩ (fun e15 => ?_)
      refine r_ret_ (vs := [.slice _ _ _]) rfl Try.func25 rfl (.nil _) ⟨rfl, trivial⟩ ?_
      have hk : k = xs.length := by omega
      subst hk
      exact ⟨_, _, rfl, own_mono ho (by omega), Ext.of_below hB⟩
theorem ccode_ret (S W : Int) (ka : Option Addr) (kc : Nat) (da : Option Addr) (dc : Nat) (ks : List K3) (ds : List Int) (d : Nat) (xa : Option Addr) (xc : Nat) (xs : List Int) (w : World) (hka : Row w ka ks.length kc 3 (ks.flatMap K3.enc)) (hda : Row w da ds.length dc 1 (ds.map vint)) (hok : BookOk S W ks ds) (hd : d < ds.length) (hx : Row w xa xs.length xc 1 (xs.map vint)) (hxn : xs.length ≤ 2097152) (hx10 : xs.length ≤ 10) (hxs : ∀ x ∈ xs, inS S x = true) : Ret Try.prog 10 [.agg ⟨[vint S, vint W, .slice ka ks.length kc, .slice da ds.length dc]⟩, vint (d : Int), .slice xa xs.length xc] w (fun v w' => ∃ ra rc, v = .tuple ⟨[.slice ra (codeL S ks ds d xs).length rc, vint 0]⟩ ∧ w'.ownsRow w.heap.size 3 1 (.slice ra (codeL S ks ds d xs).length rc) (codeL S ks ds d xs).length ((codeL S ks ds d xs).map vint) ∧ Ext w w') := by
  have hok0 := hok
  obtain ⟨⟨hPS, hW1, hW2⟩, ⟨hk0, hk5⟩, ⟨hd0, hd8⟩, hkk, hdd⟩ := hok
  have hSr := prS hPS
  have hkl := List.length_pos_iff.2 hk0
  have hdl := List.length_pos_iff.2 hd0
  have hkd := hkk _ (key_mem hdd hd)
  obtain ⟨hkm, hka2, hks⟩ := keyOk_iff.1 hkd
  simp only [keyAt] at hkm hka2 hks
  have hdx := hdd _ (getD_lt (l := ds) (d := 0) hd)
  have hB := Below.refl w.heap.size w
  have hsz : w.heap.size ≤ w.heap.size := Nat.le_refl _
  refine ret_of_runs (args := [_, _, _]) Try.func10 rfl (Nat.le_of_ble_eq_true rfl) (by kernel_rfl) ?_
  refine r_seq ?_
  refine r_region' ?_
  refine l_o (o_box rfl rfl rfl ?_)
  intro b1 w1 hzl1 hzr1 _ hb1 hE1
  have hbs_b1 : w.heap.size ≤ b1 := Nat.le_trans hsz hzl1
  replace hB := below_ext hB hE1 hsz
  replace hsz := Nat.le_trans hsz hE1.size
  refine l_q (q_assign (v := .slice _ _ _) rfl rfl) ?_
  refine l_q (q_assign (v := .int _ _) rfl rfl) ?_
  refine l_nil ?_
  refine r_forget [(1, .int _ _), (2, .slice _ _ _), (3, .pointer _)] ⟨rfl, rfl, rfl, trivial⟩ (fun e2 => ?_)
  refine r_seq ?_
  refine r_seq ?_
  have hlt_b1 := hb1.lt
  refine r_region' ?_
  refine l_q (q_load_agg (n := 4) Try.isAgg41 Try.sizeOf41 rfl ((hb1.cells' (cs' := [_, _, _, _]) 0 4 rfl)) rfl rfl) ?_
  have hbl_b1 := hb1.lt
  refine l_o (o_call Try.call20 rfl (checkBook_ret _ _ _ _ _ _ ks ds _ (hka.below hB) (hda.below hB) hok0) rfl ?_)
  rintro _ w3 ⟨rfl, hE3⟩
  replace hB := below_ext hB hE3 hsz
  replace hb1 := hb1.ext hE3
  replace hsz := Nat.le_trans hsz hE3.size
  refine l_q (q_assign (v := .int _ _) rfl rfl) ?_
  refine l_nil ?_
  refine r_forget [(1, .int _ _), (2, .slice _ _ _), (3, .pointer _), (8, .int _ _)] ⟨rfl, rfl, rfl, rfl, trivial⟩ (fun e4 => ?_)
  refine r_seq ?_
  refine r_region' ?_
  refine l_q (q_move (v := .int _ _) rfl rfl) ?_
  refine l_q (q_neq rfl rfl rfl) ?_
  refine l_nil ?_
  refine r_forget [(1, .int _ _), (2, .slice _ _ _), (3, .pointer _), (8, .int _ _), (13, .bool _)] ⟨rfl, rfl, rfl, rfl, rfl, trivial⟩ (fun e5 => ?_)
  have hk6 : (!decide (0 = 0)) = false := by decide
  refine r_cond_f ((congrArg Value.bool hk6 : Value.bool _ = _)) ?_
  refine r_skip ?_
  refine r_seq ?_
  refine r_block ?_
  refine r_seq ?_
  refine r_region' ?_
  refine l_q (q_load_agg (n := 4) Try.isAgg41 Try.sizeOf41 rfl ((hb1.cells' (cs' := [_, _, _, _]) 0 4 rfl)) rfl rfl) ?_
  refine l_q (q_move (v := .int _ _) rfl rfl) ?_
  have hbl_b1 := hb1.lt
  refine l_o (o_call Try.call21 rfl (bday_ret _ _ _ _ _ _ ds.length _ (d : Int) _ (by omega)) rfl ?_)
  rintro _ w7 ⟨rfl, hE7⟩
  replace hB := below_ext hB hE7 hsz
  replace hb1 := hb1.ext hE7
  replace hsz := Nat.le_trans hsz hE7.size
  refine l_q (q_not rfl rfl) ?_
  refine l_q (q_assign (v := .bool _) rfl rfl) ?_
  refine l_nil ?_
  refine r_forget [(1, .int _ _), (2, .slice _ _ _), (3, .pointer _), (15, .bool _)] ⟨rfl, rfl, rfl, rfl, trivial⟩ (fun e8 => ?_)
  have hk9 : (!(decide (0 ≤ (d : Int)) && decide ((d : Int) ≤ (ds.length : Int) - 1))) = false := by simp; omega
  refine r_cond_f ((congrArg Value.bool hk9 : Value.bool _ = _)) ?_
  refine r_seq ?_
  refine r_region' ?_
  refine l_q (q_move (v := .slice _ _ _) rfl rfl) ?_
  have hbl_b1 := hb1.lt
  refine l_q (q_len rfl Try.underlying26 rfl rfl) ?_
  refine l_q (q_gtr rfl rfl rfl) ?_
  refine l_q (q_assign (v := .bool _) rfl rfl) ?_
  refine l_nil ?_
  refine r_forget [(1, .int _ _), (2, .slice _ _ _), (3, .pointer _), (20, .bool _)] ⟨rfl, rfl, rfl, rfl, trivial⟩ (fun e10 => ?_)
  have hk11 : (decide (10 < (xs.length : Int))) = false := by rw [decide_eq_false_iff_not]; omega
  refine r_cond_f ((congrArg Value.bool hk11 : Value.bool _ = _)) ?_
  refine r_seq ?_
  refine r_region' ?_
  refine l_q (q_move (v := .slice _ _ _) rfl rfl) ?_
  refine l_q (q_load_agg (n := 4) Try.isAgg41 Try.sizeOf41 rfl ((hb1.cells' (cs' := [_, _, _, _]) 0 4 rfl)) rfl rfl) ?_
  refine l_q (q_makeFunc (v := .func _ ⟨[_]⟩ ⟨[]⟩) rfl rfl) ?_
  have hbl_b1 := hb1.lt
  refine l_o (o_call Try.call22 rfl (all_int_of 0 (q := inS S) Try.call23 (hx.below hB) (fun w' hw x hx => bplain_ret _ _ _ _ _ _ _ _ _ _ hSr) (by omega)) rfl ?_)
  rintro _ w12 ⟨rfl, hE12⟩
  replace hB := below_ext hB hE12 hsz
  replace hb1 := hb1.ext hE12
  replace hsz := Nat.le_trans hsz hE12.size
  refine l_q (q_not rfl rfl) ?_
  refine l_q (q_assign (v := .bool _) rfl rfl) ?_
  refine l_nil ?_
  refine r_forget [(1, .int _ _), (2, .slice _ _ _), (3, .pointer _), (24, .bool _)] ⟨rfl, rfl, rfl, rfl, trivial⟩ (fun e13 => ?_)
  have hk14 : (!(xs.all (inS S))) = false := by rw [List.all_eq_true.2 hxs]; rfl
  refine r_cond_f ((congrArg Value.bool hk14 : Value.bool _ = _)) ?_
  refine r_skip ?_
  refine r_inBlock ?_
  refine r_seq ?_
  refine r_draw3 ext_refl' ext_trans' (.op 0 (.op 1 (.op 4 (.op 5 (.op 6 (.op 7 (.op 8 (.op 9 (.op 10 (.op 11 (.op 12 (.op 13 (.op 14 (.op 15 (.op 2 (.fork 3 (.op 16 (.op 17 (.op 18 (.done)))) (.op 16 (.op 3 (.op 17 (.op 18 (.done))))))))))))))))))))) [2, 3, 16, 17, 1017] 9 (by kernel_rfl) (by kernel_rfl) ?_
  intro w15 _ hE15
  replace hB := below_ext hB hE15 hsz
  replace hb1 := hb1.ext hE15
  replace hsz := Nat.le_trans hsz hE15.size
  refine m_q3 rfl rfl (fun w' hC' => q_load_agg (n := 4) Try.isAgg41 Try.sizeOf41 rfl (((hb1.cells' (cs' := [_, _, _, _]) 0 4 rfl).ext hC')) rfl rfl) ?_
  refine m_q3 rfl rfl (fun w' hC' => q_move (v := .int _ _) rfl rfl) ?_
  refine m_q3 rfl rfl (fun w' hC' => q_load_agg (n := 4) Try.isAgg41 Try.sizeOf41 rfl (((hb1.cells' (cs' := [_, _, _, _]) 0 4 rfl).ext hC')) rfl rfl) ?_
  refine m_q3 rfl rfl (fun w' hC' => q_build (v := .agg ⟨[.func (.func 26) ⟨[]⟩ ⟨[]⟩]⟩) (fun w => by kernel_rfl) rfl) ?_
  refine m_q3 rfl rfl (fun w' hC' => q_fieldAddr (o' := 2) rfl fld41_2 rfl) ?_
  refine m_q3 rfl rfl (fun w' hC' => q_load Try.isAgg39 rfl (((hb1.has (o := 2) rfl).ext hC')) rfl) ?_
  refine m_q3 rfl rfl (fun w' hC' => q_fieldAddr (o' := 3) rfl fld41_3 rfl) ?_
  refine m_q3 rfl rfl (fun w' hC' => q_load Try.isAgg26 rfl (((hb1.has (o := 3) rfl).ext hC')) rfl) ?_
  refine m_q3 rfl rfl (fun w' hC' => q_move (v := .int _ _) rfl rfl) ?_
  obtain ⟨b16, o16, ha16, hh16⟩ := (hda.below hB).at1 d ((ds).getD d 0) (getD_some (by omega))
  refine m_q3 rfl rfl (fun w' hC' => q_indexAddr1 Try.underlying26 Try.sizeOf3 rfl ha16 rfl (by omega) rfl) ?_
  refine m_q3 rfl rfl (fun w' hC' => q_load Try.isAgg3 rfl ((hh16.ext hC')) rfl) ?_
  obtain ⟨b17, o17, ha17, hh17⟩ := (hka.below hB).at (by decide) ((ds).getD d 0).toNat (by omega)
  refine m_q3 rfl rfl (fun w' hC' => q_indexAddr Try.underlying39 Try.sizeOf54 rfl ha17 rfl (by omega) rfl) ?_
  refine m_q3 rfl rfl (fun w' hC' => q_load_agg (cs := [vint (((ks).getD ((ds).getD d 0).toNat k0).m), vint (((ks).getD ((ds).getD d 0).toNat k0).a), vint (((ks).getD ((ds).getD d 0).toNat k0).s)]) (n := 3) Try.isAgg54 Try.sizeOf54 rfl (((cells_cast (wide_at K3.len k0 _ _ (by omega)) hh17).ext hC')) rfl rfl) ?_
  refine m_q3 rfl rfl (fun w' hC' => q_move (v := .slice _ _ _) rfl rfl) ?_
  have hbl_b1 := hb1.lt
  refine m_o3 rfl rfl (o_call Try.call24 rfl (indicator_ret _ _ _ ks.length _ _ _ ds d _ (hda.below hB) (by omega) (fun x hx => by have := hdd x hx; omega) hd (by omega)) rfl ?_)
  rintro _ w18 ⟨rfl, hE18⟩
  refine ⟨hE18, ?_⟩
  replace hB := below_ext hB hE18 hsz
  replace hb1 := hb1.ext hE18
  replace hsz := Nat.le_trans hsz hE18.size
  refine m_fork3 ?_ ?_
  · skip
    have hbl_b1 := hb1.lt
    refine m_o3 rfl rfl (o_buildSlice (el := 3) (cs := [vint ((ds.getD d 0 + (d : Int)) % (ks.length : Int))]) Try.underlying26 el3 (by decide) (by kernel_rfl) rfl (by decide) rfl ?_)
    intro b19 w19 hzl19 hzr19 _ hb19 hE19 ho19
    refine ⟨hE19, ?_⟩
    have hne_b1_b19 : b1 ≠ b19 := by have := hb1.lt; omega
    have hbs_b19 : w.heap.size ≤ b19 := Nat.le_trans hsz hzl19
    replace hB := below_ext hB hE19 hsz
    replace hb1 := hb1.ext hE19
    replace hsz := Nat.le_trans hsz hE19.size
    replace ho19 := own_mono ho19 (show b1 + 1 ≤ _ by omega)
    have hbl_b1 := hb1.lt
    refine m_o3 rfl rfl (o_call Try.call25 rfl (turned_ret S W ka ks.length kc da ds.length dc _ _ _ 26 (codeI S (keyAt ks ds d) xs) _ _ xs _ Try.call26 (fun i hi w' hw => code4_ret _ _ _ _ _ _ _ _ _ _ _ _ _ _ hSr (by omega) (by omega) (by omega) (in41 hSr (hxs _ (getD_lt hi))) (by omega)) (hx.below hB) (by first | omega | (have := len_td xs; omega))) rfl ?_)
    rintro _ w20 ⟨a20_0, c20_0, rfl, ho20_0, hE20⟩
    replace ho20_0 := own_mono ho20_0 (show b1 + 1 ≤ _ by omega)
    refine ⟨hE20, ?_⟩
    replace hB := below_ext hB hE20 hsz
    replace hb1 := hb1.ext hE20
    replace ho19 := own_ext ho19 hE20
    replace hsz := Nat.le_trans hsz hE20.size
    have hbl_b1 := hb1.lt
    refine m_last3 rfl rfl rfl (o_append_map (f := vint) ([(ds.getD d 0 + (d : Int)) % (ks.length : Int)]) ((List.range (xs).length).map (codeI S (keyAt ks ds d) xs)) Try.underlying26 el3 rfl rfl ho19 rfl (Row.of_owns ho20_0) (fun _ => rfl) (by simp only [List.length_map, List.length_range, List.length_cons, List.length_nil]; omega) (by omega) rfl ?_)
    intro a21 c21 w21 hz21 ho21 hG21
    replace hB := below_own hB hG21 ho19 (by omega) hsz
    replace hsz := Nat.le_trans hsz hG21.size
    replace hb1 := hb1.step hG21 (own_ne ho19 (by omega))
    refine m_q3 rfl rfl (fun w' hC' => q_assign (v := .slice _ _ _) rfl rfl) ?_
    refine m_nil3 ?_
    refine r_forget [(3, .pointer _), (9, .slice _ _ _)] ⟨rfl, rfl, trivial⟩ (fun e22 => ?_)
    refine r_seq ?_
    refine r_region' ?_
    refine l_q (q_move (v := .slice _ _ _) rfl rfl) ?_
    refine l_q (q_load_agg (n := 4) Try.isAgg41 Try.sizeOf41 rfl ((hb1.cells' (cs' := [_, _, _, _]) 0 4 rfl)) rfl rfl) ?_
    refine l_q (q_move (v := .slice _ _ _) rfl rfl) ?_
    have hbl_b1 := hb1.lt
    refine l_o (o_call Try.call27 rfl (check4_ret S W ka ks.length kc da ds.length dc _ _ (headL S ks ds d xs) _ hSr (Row.of_owns ho21) (by rw [headL_len]; omega) (by rw [headL_len]; omega) (headL_rng hSr hkl hk5)) rfl ?_)
    rintro _ w23 ⟨rfl, hE23⟩
    replace hB := below_ext hB hE23 hsz
    replace hb1 := hb1.ext hE23
    replace ho21 := own_ext ho21 hE23
    replace hsz := Nat.le_trans hsz hE23.size
    have hbl_b1 := hb1.lt
    refine l_o (o_buildSlice (el := 3) (cs := [vint (sumN (headL S ks ds d xs) (headL S ks ds d xs).length % S)]) Try.underlying26 el3 (by decide) (by kernel_rfl) rfl (by decide) rfl ?_)
    intro b24 w24 hzl24 hzr24 _ hb24 hE24 ho24
    have hne_b1_b24 : b1 ≠ b24 := by have := hb1.lt; omega
    have hbs_b24 : w.heap.size ≤ b24 := Nat.le_trans hsz hzl24
    replace hB := below_ext hB hE24 hsz
    replace hb1 := hb1.ext hE24
    replace ho21 := own_ext ho21 hE24
    replace hsz := Nat.le_trans hsz hE24.size
    replace ho24 := own_mono ho24 (show b1 + 1 ≤ _ by omega)
    have hbl_b1 := hb1.lt
    refine l_o (o_append_map (f := vint) ([(ds.getD d 0 + (d : Int)) % (ks.length : Int)] ++ ((List.range (xs).length).map (codeI S (keyAt ks ds d) xs))) ([sumN (headL S ks ds d xs) (headL S ks ds d xs).length % S]) Try.underlying26 el3 rfl rfl ho21 rfl (Row.of_owns ho24) (fun _ => rfl) (by simp only [List.length_append, List.length_map, List.length_range, List.length_cons, List.length_nil]; omega) (by omega) rfl ?_)
    intro a25 c25 w25 hz25 ho25 hG25
    replace hB := below_own hB hG25 ho21 (by omega) hsz
    replace hsz := Nat.le_trans hsz hG25.size
    replace hb1 := hb1.step hG25 (own_ne ho21 (by omega))
    refine l_q (q_assign (v := .slice _ _ _) rfl rfl) ?_
    refine l_q (q_assign (v := .int _ _) rfl rfl) ?_
    refine l_nil ?_
    refine r_forget [(6, .slice _ _ _), (7, .int _ _)] ⟨rfl, rfl, trivial⟩ (fun e26 => ?_)
    refine r_ret_ (vs := [.slice _ _ _, .int _ _]) rfl Try.func10 rfl (.nil _) ⟨rfl, rfl, trivial⟩ ?_
    exact ⟨_, _, rfl, own_mono ho25 (by omega), Ext.of_below hB⟩
  · skip
    have hbl_b1 := hb1.lt
    refine m_o3 rfl rfl (o_call Try.call25 rfl (turned_ret S W ka ks.length kc da ds.length dc _ _ _ 26 (codeI S (keyAt ks ds d) xs) _ _ xs _ Try.call26 (fun i hi w' hw => code4_ret _ _ _ _ _ _ _ _ _ _ _ _ _ _ hSr (by omega) (by omega) (by omega) (in41 hSr (hxs _ (getD_lt hi))) (by omega)) (hx.below hB) (by first | omega | (have := len_td xs; omega))) rfl ?_)
    rintro _ w27 ⟨a27_0, c27_0, rfl, ho27_0, hE27⟩
    replace ho27_0 := own_mono ho27_0 (show b1 + 1 ≤ _ by omega)
    refine ⟨hE27, ?_⟩
    replace hB := below_ext hB hE27 hsz
    replace hb1 := hb1.ext hE27
    replace hsz := Nat.le_trans hsz hE27.size
    have hbl_b1 := hb1.lt
    refine m_o3 rfl rfl (o_buildSlice (el := 3) (cs := [vint ((ds.getD d 0 + (d : Int)) % (ks.length : Int))]) Try.underlying26 el3 (by decide) (by kernel_rfl) rfl (by decide) rfl ?_)
    intro b28 w28 hzl28 hzr28 _ hb28 hE28 ho28
    refine ⟨hE28, ?_⟩
    have hne_b1_b28 : b1 ≠ b28 := by have := hb1.lt; omega
    have hbs_b28 : w.heap.size ≤ b28 := Nat.le_trans hsz hzl28
    replace hB := below_ext hB hE28 hsz
    replace hb1 := hb1.ext hE28
    replace ho27_0 := own_ext ho27_0 hE28
    replace hsz := Nat.le_trans hsz hE28.size
    replace ho28 := own_mono ho28 (show b1 + 1 ≤ _ by omega)
    have hbl_b1 := hb1.lt
    refine m_last3 rfl rfl rfl (o_append_map (f := vint) ([(ds.getD d 0 + (d : Int)) % (ks.length : Int)]) ((List.range (xs).length).map (codeI S (keyAt ks ds d) xs)) Try.underlying26 el3 rfl rfl ho28 rfl (Row.of_owns ho27_0) (fun _ => rfl) (by simp only [List.length_map, List.length_range, List.length_cons, List.length_nil]; omega) (by omega) rfl ?_)
    intro a29 c29 w29 hz29 ho29 hG29
    replace hB := below_own hB hG29 ho28 (by omega) hsz
    replace hsz := Nat.le_trans hsz hG29.size
    replace hb1 := hb1.step hG29 (own_ne ho28 (by omega))
    refine m_q3 rfl rfl (fun w' hC' => q_assign (v := .slice _ _ _) rfl rfl) ?_
    refine m_nil3 ?_
    refine r_forget [(3, .pointer _), (9, .slice _ _ _)] ⟨rfl, rfl, trivial⟩ (fun e30 => ?_)
    refine r_seq ?_
    refine r_region' ?_
    refine l_q (q_move (v := .slice _ _ _) rfl rfl) ?_
    refine l_q (q_load_agg (n := 4) Try.isAgg41 Try.sizeOf41 rfl ((hb1.cells' (cs' := [_, _, _, _]) 0 4 rfl)) rfl rfl) ?_
    refine l_q (q_move (v := .slice _ _ _) rfl rfl) ?_
    have hbl_b1 := hb1.lt
    refine l_o (o_call Try.call27 rfl (check4_ret S W ka ks.length kc da ds.length dc _ _ (headL S ks ds d xs) _ hSr (Row.of_owns ho29) (by rw [headL_len]; omega) (by rw [headL_len]; omega) (headL_rng hSr hkl hk5)) rfl ?_)
    rintro _ w31 ⟨rfl, hE31⟩
    replace hB := below_ext hB hE31 hsz
    replace hb1 := hb1.ext hE31
    replace ho29 := own_ext ho29 hE31
    replace hsz := Nat.le_trans hsz hE31.size
    have hbl_b1 := hb1.lt
    refine l_o (o_buildSlice (el := 3) (cs := [vint (sumN (headL S ks ds d xs) (headL S ks ds d xs).length % S)]) Try.underlying26 el3 (by decide) (by kernel_rfl) rfl (by decide) rfl ?_)
    intro b32 w32 hzl32 hzr32 _ hb32 hE32 ho32
    have hne_b1_b32 : b1 ≠ b32 := by have := hb1.lt; omega
    have hbs_b32 : w.heap.size ≤ b32 := Nat.le_trans hsz hzl32
    replace hB := below_ext hB hE32 hsz
    replace hb1 := hb1.ext hE32
    replace ho29 := own_ext ho29 hE32
    replace hsz := Nat.le_trans hsz hE32.size
    replace ho32 := own_mono ho32 (show b1 + 1 ≤ _ by omega)
    have hbl_b1 := hb1.lt
    refine l_o (o_append_map (f := vint) ([(ds.getD d 0 + (d : Int)) % (ks.length : Int)] ++ ((List.range (xs).length).map (codeI S (keyAt ks ds d) xs))) ([sumN (headL S ks ds d xs) (headL S ks ds d xs).length % S]) Try.underlying26 el3 rfl rfl ho29 rfl (Row.of_owns ho32) (fun _ => rfl) (by simp only [List.length_append, List.length_map, List.length_range, List.length_cons, List.length_nil]; omega) (by omega) rfl ?_)
    intro a33 c33 w33 hz33 ho33 hG33
    replace hB := below_own hB hG33 ho29 (by omega) hsz
    replace hsz := Nat.le_trans hsz hG33.size
    replace hb1 := hb1.step hG33 (own_ne ho29 (by omega))
    refine l_q (q_assign (v := .slice _ _ _) rfl rfl) ?_
    refine l_q (q_assign (v := .int _ _) rfl rfl) ?_
    refine l_nil ?_
    refine r_forget [(6, .slice _ _ _), (7, .int _ _)] ⟨rfl, rfl, trivial⟩ (fun e34 => ?_)
    refine r_ret_ (vs := [.slice _ _ _, .int _ _]) rfl Try.func10 rfl (.nil _) ⟨rfl, rfl, trivial⟩ ?_
    exact ⟨_, _, rfl, own_mono ho33 (by omega), Ext.of_below hB⟩
theorem del1_ret (S W : Int) (ka : Option Addr) (kn kc : Nat) (da : Option Addr) (dn dc : Nat) (n : Int) (bb : Nat) (w : World) (hbb : Blk w bb [vint S, vint W, .slice ka kn kc, .slice da dn dc]) : Ret Try.prog 40 [vint n, ptr bb 0] w (fun v w' => v = .bool (decide (W ≤ n)) ∧ Ext w w') := by
  have hbl := hbb.lt
  have hB := Below.refl w.heap.size w
  have hsz : w.heap.size ≤ w.heap.size := Nat.le_refl _
  refine ret_of_runs (args := [_, _]) Try.func40 rfl (Nat.le_of_ble_eq_true rfl) (by kernel_rfl) ?_
  refine r_seq ?_
  refine r_region' ?_
  refine l_q (q_assign (v := .bool _) rfl rfl) ?_
  refine l_nil ?_
  refine r_forget [(0, .int _ _), (1, .pointer _)] ⟨rfl, rfl, trivial⟩ (fun e1 => ?_)
  refine r_seq ?_
  refine r_region' ?_
  refine l_q (q_move (v := .int _ _) rfl rfl) ?_
  refine l_q (q_fieldAddr (o' := 1) rfl fld41_1 rfl) ?_
  refine l_q (q_load Try.isAgg3 rfl (((hbb.below hB (by omega)).has (o := 1) rfl)) rfl) ?_
  refine l_q (q_geq rfl rfl rfl) ?_
  refine l_q (q_assign (v := .bool _) rfl rfl) ?_
  refine l_nil ?_
  refine r_forget [(3, .bool _)] ⟨rfl, trivial⟩ (fun e2 => ?_)
  refine r_ret_ (vs := [.bool _]) rfl Try.func40 rfl (.nil _) ⟨rfl, trivial⟩ ?_
  exact ⟨rfl, Ext.of_below hB⟩
theorem del_nil_ret (S W : Int) (ka : Option Addr) (kn kc : Nat) (da : Option Addr) (dn dc : Nat) (bb : Nat) (w : World) (hbb : Blk w bb [vint S, vint W, .slice ka kn kc, .slice da dn dc]) : Ret Try.prog 38 [.slice none 0 0, .func (.func 40) ⟨[]⟩ ⟨[ptr bb 0]⟩] w (fun v w' => (∃ a n c, v = .slice a n c) ∧ Ext w w') := by
  have hbl := hbb.lt
  have hB := Below.refl w.heap.size w
  have hsz : w.heap.size ≤ w.heap.size := Nat.le_refl _
  refine ret_of_runs (args := [_, _]) Try.func38 rfl (Nat.le_of_ble_eq_true rfl) (by kernel_rfl) ?_
  refine r_seq ?_
  refine r_region' ?_
  refine l_q (q_assign (v := .slice _ _ _) rfl rfl) ?_
  refine l_nil ?_
  refine r_forget [(0, .slice _ _ _), (1, .func _ _ _)] ⟨rfl, rfl, trivial⟩ (fun e1 => ?_)
  refine r_seq ?_
  refine r_region' ?_
  refine l_q (q_move (v := .slice _ _ _) rfl rfl) ?_
  refine l_q (q_move (v := .func _ _ _) rfl rfl) ?_
  refine l_o (o_call Try.call55 rfl (indexFunc_int_ret _ _ _ _ 40 [] [ptr bb 0] (fun i => decide (W ≤ ([] : List Int).getD i 0)) _ (Row.nil _ _ _ _) (predI_of (fst := []) (cap := [ptr bb 0]) (xs := ([] : List Int)) (f := vint) 0 (q := fun x => decide (W ≤ x)) Try.call40 (fun w' hw x hx => by simp at hx)) (by omega)) rfl ?_)
  rintro _ w2 ⟨rfl, hE2⟩
  replace hB := below_ext hB hE2 hsz
  replace hsz := Nat.le_trans hsz hE2.size
  refine l_q (q_assign (v := .int _ _) rfl rfl) ?_
  refine l_nil ?_
  refine r_forget [(0, .slice _ _ _), (1, .func _ _ _), (5, .int _ _)] ⟨rfl, rfl, rfl, trivial⟩ (fun e3 => ?_)
  refine r_seq ?_
  refine r_seq ?_
  refine r_region' ?_
  refine l_q (q_move (v := .int _ _) rfl rfl) ?_
  refine l_q (q_eql rfl rfl rfl) ?_
  refine l_nil ?_
  refine r_forget [(0, .slice _ _ _), (1, .func _ _ _), (5, .int _ _), (12, .bool _)] ⟨rfl, rfl, rfl, rfl, trivial⟩ (fun e4 => ?_)
  have hk5 : (decide ((idxI (fun i => decide (W ≤ ([] : List Int).getD i 0)) 0) = (-1))) = true := by rfl
  refine r_cond_t ((congrArg Value.bool hk5 : Value.bool _ = _)) ?_
  refine r_seq ?_
  refine r_region' ?_
  refine l_q (q_move (v := .slice _ _ _) rfl rfl) ?_
  refine l_q (q_assign (v := .slice _ _ _) rfl rfl) ?_
  refine l_nil ?_
  refine r_forget [(4, .slice _ _ _)] ⟨rfl, trivial⟩ (fun e6 => ?_)
  refine r_ret_ (vs := [.slice _ _ _]) rfl Try.func38 rfl (.nil _) ⟨rfl, trivial⟩ ?_
  exact ⟨⟨_, _, _, rfl⟩, Ext.of_below hB⟩
theorem del_blk_ret (S W : Int) (ka : Option Addr) (kn kc : Nat) (da : Option Addr) (dn dc : Nat) (g cap bb B0 : Nat) (xs : List Int) (w : World) (hown : w.ownsRow B0 3 1 (.slice (some ⟨g, 0, none⟩) xs.length cap) xs.length (xs.map vint)) (hbb : Blk w bb [vint S, vint W, .slice ka kn kc, .slice da dn dc]) (hne : bb ≠ g) (hxl : xs.length ≤ 2097152) : Ret Try.prog 38 [.slice (some ⟨g, 0, none⟩) xs.length cap, .func (.func 40) ⟨[]⟩ ⟨[ptr bb 0]⟩] w (fun v w' => (∃ a n c, v = .slice a n c) ∧ w.grownBy w' (some g)) := by
  have hcap := (Row.of_owns hown).2.1
  obtain ⟨cs, hbg, hcs⟩ := del_open hown
  have hgr : w.grownBy w (some g) := grown_refl _ w
  have hsz : w.heap.size ≤ w.heap.size := Nat.le_refl _
  refine ret_of_runs (args := [_, _]) Try.func38 rfl (Nat.le_of_ble_eq_true rfl) (by kernel_rfl) ?_
  refine r_seq ?_
  refine r_region' ?_
  refine l_q (q_assign (v := .slice _ _ _) rfl rfl) ?_
  refine l_nil ?_
  refine r_forget [(0, .slice _ _ _), (1, .func _ _ _)] ⟨rfl, rfl, trivial⟩ (fun e1 => ?_)
  refine r_seq ?_
  refine r_region' ?_
  refine l_q (q_move (v := .slice _ _ _) rfl rfl) ?_
  refine l_q (q_move (v := .func _ _ _) rfl rfl) ?_
  refine l_o (o_call Try.call55 rfl (indexFunc_int_ret _ _ _ _ 40 [] [ptr bb 0] (fun i => decide (W ≤ xs.getD i 0)) _ (Row.of_owns hown) (predI_of (fst := []) (cap := [ptr bb 0]) 0 (q := fun x => decide (W ≤ x)) Try.call40 (fun w' hw x _ => del1_ret _ _ _ _ _ _ _ _ _ _ _ (hbb.ext hw))) (by omega)) rfl ?_)
  rintro _ w2 ⟨rfl, hE2⟩
  replace hbg := hbg.ext hE2
  replace hbb := hbb.ext hE2
  replace hgr := grown_trans hgr (grown_of_ext (some g) hE2)
  replace hsz := Nat.le_trans hsz hE2.size
  refine l_q (q_assign (v := .int _ _) rfl rfl) ?_
  refine l_nil ?_
  refine r_forget [(0, .slice _ _ _), (1, .func _ _ _), (5, .int _ _)] ⟨rfl, rfl, rfl, trivial⟩ (fun e3 => ?_)
  refine r_seq ?_
  refine r_seq ?_
  refine r_region' ?_
  refine l_q (q_move (v := .int _ _) rfl rfl) ?_
  refine l_q (q_eql rfl rfl rfl) ?_
  refine l_nil ?_
  refine r_forget [(0, .slice _ _ _), (1, .func _ _ _), (5, .int _ _), (12, .bool _)] ⟨rfl, rfl, rfl, rfl, trivial⟩ (fun e4 => ?_)
  refine r_cond rfl (fun hc5 => ?_) (fun hc5 => ?_)
  · skip
    try simp only [decide_eq_true_eq, decide_eq_false_iff_not, Bool.not_eq_true', Bool.not_eq_false', Bool.not_not, Bool.not_true, Bool.not_false, Bool.not_eq_true, Bool.not_eq_false, Int.not_lt, Int.not_le, Bool.and_eq_true, Bool.or_eq_true, Bool.and_eq_false_iff, Bool.or_eq_false_iff] at hc5
    refine r_seq ?_
    refine r_region' ?_
    refine l_q (q_move (v := .slice _ _ _) rfl rfl) ?_
    refine l_q (q_assign (v := .slice _ _ _) rfl rfl) ?_
    refine l_nil ?_
    refine r_forget [(4, .slice _ _ _)] ⟨rfl, trivial⟩ (fun e6 => ?_)
    refine r_ret_ (vs := [.slice _ _ _]) rfl Try.func38 rfl (.nil _) ⟨rfl, trivial⟩ ?_
    exact ⟨⟨_, _, _, rfl⟩, hgr⟩
  · skip
    try simp only [decide_eq_true_eq, decide_eq_false_iff_not, Bool.not_eq_true', Bool.not_eq_false', Bool.not_not, Bool.not_true, Bool.not_false, Bool.not_eq_true, Bool.not_eq_false, Int.not_lt, Int.not_le, Bool.and_eq_true, Bool.or_eq_true, Bool.and_eq_false_iff, Bool.or_eq_false_iff] at hc5
    obtain ⟨i0, hi0, hi1⟩ := idx_nat hc5
    refine r_skip ?_
    refine r_seq ?_
    refine r_seq ?_
    refine r_region' ?_
    refine l_q (q_move (v := .int _ _) rfl rfl) ?_
    refine l_q (q_add rfl rfl (by omega) rfl) ?_
    refine l_q (q_assign (v := .int _ _) rfl rfl) ?_
    refine l_nil ?_
    refine r_forget [(0, .slice _ _ _), (1, .func _ _ _), (5, .int _ _), (6, .int _ _)] ⟨rfl, rfl, rfl, rfl, trivial⟩ (fun e7 => ?_)
    refine r_block ?_
    refine r_rounds (α := Nat × Nat × (List Value)) (fun ⟨j, i, cs⟩ e wl => Knows e [(0, .slice (some ⟨g, 0, none⟩) xs.length cap), (1, .func (.func 40) ⟨[]⟩ ⟨[ptr bb 0]⟩), (5, vint (i : Int)), (6, vint (j : Int))] ∧ (i < j ∧ j ≤ xs.length) ∧ (xs.length ≤ cs.length ∧ ∀ j, j < xs.length → ∃ v, cs[j]? = some (vint v)) ∧ (Blk wl g cs) ∧ (Blk wl bb [vint S, vint W, .slice ka kn kc, .slice da dn dc]) ∧ (w.grownBy wl (some g)) ∧ (w.heap.size ≤ wl.heap.size)) (fun ⟨j, i, cs⟩ => xs.length - j) (i0 + 1, i0, cs) ?_ ?_
    · skip
      exact ⟨⟨rfl, rfl, (vint_eq hi0), (vint_eq (by omega)), trivial⟩, (by omega), hcs, hbg, hbb, hgr, hsz⟩
    · skip
      rintro ⟨j, i, cs⟩ el8 wl8 ⟨hkn, hij, hcs, hbg, hbb, hgr, hsz⟩ ih8
      obtain ⟨e8, rfl⟩ := knows_env hkn
      refine r_seq ?_
      refine r_seq ?_
      refine r_region' ?_
      refine l_q (q_move (v := .int _ _) rfl rfl) ?_
      refine l_q (q_move (v := .slice _ _ _) rfl rfl) ?_
      refine l_q (q_len rfl Try.underlying26 rfl rfl) ?_
      refine l_q (q_lss rfl rfl rfl) ?_
      refine l_nil ?_
      refine r_forget [(0, .slice _ _ _), (1, .func _ _ _), (5, .int _ _), (6, .int _ _), (19, .bool _)] ⟨rfl, rfl, rfl, rfl, rfl, trivial⟩ (fun e9 => ?_)
      refine r_cond rfl (fun hc10 => ?_) (fun hc10 => ?_)
      · skip
        try simp only [decide_eq_true_eq, decide_eq_false_iff_not, Bool.not_eq_true', Bool.not_eq_false', Bool.not_not, Bool.not_true, Bool.not_false, Bool.not_eq_true, Bool.not_eq_false, Int.not_lt, Int.not_le, Bool.and_eq_true, Bool.or_eq_true, Bool.and_eq_false_iff, Bool.or_eq_false_iff] at hc10
        refine r_skip ?_
        refine r_seq ?_
        refine r_block ?_
        refine r_seq ?_
        refine r_region' ?_
        refine l_q (q_move (v := .slice _ _ _) rfl rfl) ?_
        refine l_q (q_move (v := .int _ _) rfl rfl) ?_
        refine l_q (q_indexAddr1 Try.underlying26 Try.sizeOf3 rfl rfl rfl (by omega) rfl) ?_
        obtain ⟨x11, hx11⟩ := hcs.2 j (by omega)
        refine l_q (q_load Try.isAgg3 rfl ((hbg.has (by rw [Nat.zero_add]; exact hx11))) rfl) ?_
        refine l_q (q_assign (v := .int _ _) rfl rfl) ?_
        refine l_nil ?_
        refine r_forget [(0, .slice _ _ _), (1, .func _ _ _), (5, .int _ _), (6, .int _ _), (7, .int _ _)] ⟨rfl, rfl, rfl, rfl, rfl, trivial⟩ (fun e12 => ?_)
        refine r_seq ?_
        refine r_region' ?_
        refine l_q (q_move (v := .func _ _ _) rfl rfl) ?_
        refine l_q (q_move (v := .int _ _) rfl rfl) ?_
        refine l_o (o_callv (f := 40) (fst := []) (cap := [_]) rfl Try.call40 rfl (del1_ret _ _ _ _ _ _ _ _ x11 _ _ hbb) rfl ?_)
        rintro _ w13 ⟨rfl, hE13⟩
        replace hbg := hbg.ext hE13
        replace hbb := hbb.ext hE13
        replace hgr := grown_trans hgr (grown_of_ext (some g) hE13)
        replace hsz := Nat.le_trans hsz hE13.size
        refine l_q (q_not rfl rfl) ?_
        refine l_nil ?_
        refine r_forget [(0, .slice _ _ _), (1, .func _ _ _), (5, .int _ _), (6, .int _ _), (7, .int _ _), (29, .bool _)] ⟨rfl, rfl, rfl, rfl, rfl, rfl, trivial⟩ (fun e14 => ?_)
        refine r_cond rfl (fun hc15 => ?_) (fun hc15 => ?_)
        · skip
          try simp only [decide_eq_true_eq, decide_eq_false_iff_not, Bool.not_eq_true', Bool.not_eq_false', Bool.not_not, Bool.not_true, Bool.not_false, Bool.not_eq_true, Bool.not_eq_false, Int.not_lt, Int.not_le, Bool.and_eq_true, Bool.or_eq_true, Bool.and_eq_false_iff, Bool.or_eq_false_iff] at hc15
          refine r_seq ?_
          refine r_region' ?_
          refine l_q (q_move (v := .slice _ _ _) rfl rfl) ?_
          refine l_q (q_move (v := .int _ _) rfl rfl) ?_
          refine l_q (q_move (v := .int _ _) rfl rfl) ?_
          refine l_q (q_indexAddr1 Try.underlying26 Try.sizeOf3 rfl rfl rfl (by omega) rfl) ?_
          refine l_o (o_store1 Try.sizeOf3 rfl rfl rfl rfl hbg (by omega) rfl ?_)
          intro w16 hz16 hbg hG16
          replace hsz : w.heap.size ≤ w16.heap.size := by rw [hz16]; exact hsz
          replace hbb := hbb.upd hG16 (by omega)
          replace hgr := grown_trans hgr hG16
          refine l_nil ?_
          refine r_forget [(0, .slice _ _ _), (1, .func _ _ _), (5, .int _ _), (6, .int _ _)] ⟨rfl, rfl, rfl, rfl, trivial⟩ (fun e17 => ?_)
          refine r_region' ?_
          refine l_q (q_move (v := .int _ _) rfl rfl) ?_
          refine l_q (q_add rfl rfl (by omega) rfl) ?_
          refine l_q (q_assign (v := .int _ _) rfl rfl) ?_
          refine l_nil ?_
          refine r_forget [(0, .slice _ _ _), (1, .func _ _ _), (5, .int _ _), (6, .int _ _)] ⟨rfl, rfl, rfl, rfl, trivial⟩ (fun e18 => ?_)
          refine r_inBlock ?_
          refine r_region' ?_
          refine l_q (q_move (v := .int _ _) rfl rfl) ?_
          refine l_q (q_add rfl rfl (by omega) rfl) ?_
          refine l_q (q_assign (v := .int _ _) rfl rfl) ?_
          refine l_nil ?_
          refine r_forget [(0, .slice _ _ _), (1, .func _ _ _), (5, .int _ _), (6, .int _ _)] ⟨rfl, rfl, rfl, rfl, trivial⟩ (fun e19 => ?_)
          exact ih8 (j + 1, i + 1, cs.set (0 + i) (vint x11)) _ _ ⟨⟨rfl, rfl, (vint_eq (by omega)), (vint_eq (by omega)), trivial⟩, (by omega), (by first | exact hcs | exact del_set hcs), hbg, hbb, hgr, hsz⟩ (by first | omega | (dsimp only; omega))
        · skip
          try simp only [decide_eq_true_eq, decide_eq_false_iff_not, Bool.not_eq_true', Bool.not_eq_false', Bool.not_not, Bool.not_true, Bool.not_false, Bool.not_eq_true, Bool.not_eq_false, Int.not_lt, Int.not_le, Bool.and_eq_true, Bool.or_eq_true, Bool.and_eq_false_iff, Bool.or_eq_false_iff] at hc15
          refine r_skip ?_
          refine r_inBlock ?_
          refine r_region' ?_
          refine l_q (q_move (v := .int _ _) rfl rfl) ?_
          refine l_q (q_add rfl rfl (by omega) rfl) ?_
          refine l_q (q_assign (v := .int _ _) rfl rfl) ?_
          refine l_nil ?_
          refine r_forget [(0, .slice _ _ _), (1, .func _ _ _), (5, .int _ _), (6, .int _ _)] ⟨rfl, rfl, rfl, rfl, trivial⟩ (fun e20 => ?_)
          exact ih8 (j + 1, i, cs) _ _ ⟨⟨rfl, rfl, (vint_eq (by omega)), (vint_eq (by omega)), trivial⟩, (by omega), (by first | exact hcs | exact del_set hcs), hbg, hbb, hgr, hsz⟩ (by first | omega | (dsimp only; omega))
      · skip
        try simp only [decide_eq_true_eq, decide_eq_false_iff_not, Bool.not_eq_true', Bool.not_eq_false', Bool.not_not, Bool.not_true, Bool.not_false, Bool.not_eq_true, Bool.not_eq_false, Int.not_lt, Int.not_le, Bool.and_eq_true, Bool.or_eq_true, Bool.and_eq_false_iff, Bool.or_eq_false_iff] at hc10
        refine r_exit rfl ?_
        refine r_seq ?_
        refine r_region' ?_
        refine l_q (q_move (v := .slice _ _ _) rfl rfl) ?_
        refine l_q (q_move (v := .int _ _) rfl rfl) ?_
        refine l_q ((q_slice (lo := (i : Int)) (hi := (xs.length : Int)) Try.underlying26 Try.sizeOf3 rfl rfl rfl (by omega) hcap rfl).cast (del_lo (b := g) (by omega) hcap)) ?_
        refine l_o (o_clear Try.underlying26 el3 rfl rfl rfl rfl hbg (by omega) (by omega) rfl ?_)
        rintro w21 hz21 ⟨cs21, hbg⟩ hG21
        replace hsz : w.heap.size ≤ w21.heap.size := by rw [hz21]; exact hsz
        replace hbb := hbb.upd hG21 (by omega)
        replace hgr := grown_trans hgr hG21
        refine l_nil ?_
        refine r_forget [(0, .slice _ _ _), (5, .int _ _)] ⟨rfl, rfl, trivial⟩ (fun e22 => ?_)
        refine r_seq ?_
        refine r_region' ?_
        refine l_q (q_move (v := .slice _ _ _) rfl rfl) ?_
        refine l_q (q_move (v := .int _ _) rfl rfl) ?_
        refine l_q (q_slice (lo := 0) (hi := (i : Int)) Try.underlying26 Try.sizeOf3 rfl rfl rfl (by omega) hcap rfl) ?_
        refine l_q (q_assign (v := .slice _ _ _) rfl rfl) ?_
        refine l_nil ?_
        refine r_forget [(4, .slice _ _ _)] ⟨rfl, trivial⟩ (fun e23 => ?_)
        refine r_ret_ (vs := [.slice _ _ _]) rfl Try.func38 rfl (.nil _) ⟨rfl, trivial⟩ ?_
        exact ⟨⟨_, _, _, rfl⟩, hgr⟩
theorem del_ret (S W : Int) (ka : Option Addr) (kn kc : Nat) (da : Option Addr) (dn dc : Nat) (a : Option Addr) (cap bb B0 : Nat) (xs : List Int) (w : World) (hown : w.ownsRow B0 3 1 (.slice a xs.length cap) xs.length (xs.map vint)) (hbb : Blk w bb [vint S, vint W, .slice ka kn kc, .slice da dn dc]) (hbl : bb < B0) (hB0 : B0 ≤ w.heap.size) (hxl : xs.length ≤ 2097152) :
    Ret Try.prog 38 [.slice a xs.length cap, .func (.func 40) ⟨[]⟩ ⟨[ptr bb 0]⟩] w (fun v w' => (∃ a n c, v = .slice a n c) ∧ Below B0 w w') := by
  have hown0 := hown
  rcases hown.2 with ⟨h0, hz⟩ | ⟨g, cap', cur, h1, h2, h3, _⟩
  · injection h0 with h4 h5 h6
    subst h4; subst h6
    rw [hz]
    exact (del_nil_ret _ _ _ _ _ _ _ _ _ w hbb).mono fun v w' h => ⟨h.1, ((Below.refl w.heap.size w).trans h.2.below).mono hB0⟩
  · injection h1 with h4 h5 h6
    subst h4
    exact (del_blk_ret _ _ _ _ _ _ _ _ g cap bb B0 xs w hown0 hbb (by omega) hxl).mono fun v w' h => ⟨h.1, below_upd (Below.refl B0 w) h.2 hB0 h2⟩
theorem decode_ret (S W : Int) (ka : Option Addr) (kc : Nat) (da : Option Addr) (dc : Nat) (ks : List K3) (ds : List Int) (d : Nat) (xa : Option Addr) (xc : Nat) (xs : List Int) (w : World) (hka : Row w ka ks.length kc 3 (ks.flatMap K3.enc)) (hda : Row w da ds.length dc 1 (ds.map vint)) (hok : BookOk S W ks ds) (hd : d < ds.length) (hx : Row w xa xs.length xc 1 (xs.map vint)) (hxn : xs.length ≤ 2097152) (hx2 : 2 ≤ xs.length ∧ xs.length ≤ 12) (hxs : ∀ x ∈ xs, inS S x = true) : Ret Try.prog 13 [.agg ⟨[vint S, vint W, .slice ka ks.length kc, .slice da ds.length dc]⟩, vint (d : Int), .slice xa xs.length xc] w (fun v w' => ∃ pa pc wa wn wc e p, v = .tuple ⟨[.slice pa (List.length p) pc, .slice wa wn wc, vint e]⟩ ∧ Row w' pa p.length pc 1 (p.map vint) ∧ decR S ks ds d xs = (e, p) ∧ Ext w w') := by
  have hok0 := hok
  obtain ⟨⟨hPS, hW1, hW2⟩, ⟨hk0, hk5⟩, ⟨hd0, hd8⟩, hkk, hdd⟩ := hok
  have hSr := prS hPS
  have hkl := List.length_pos_iff.2 hk0
  have hdl := List.length_pos_iff.2 hd0
  have hkd := hkk _ (key_mem hdd hd)
  obtain ⟨hkm, hka2, hks⟩ := keyOk_iff.1 hkd
  simp only [keyAt] at hkm hka2 hks
  have hdx := hdd _ (getD_lt (l := ds) (d := 0) hd)
  have hB := Below.refl w.heap.size w
  have hsz : w.heap.size ≤ w.heap.size := Nat.le_refl _
  refine ret_of_runs (args := [_, _, _]) Try.func13 rfl (Nat.le_of_ble_eq_true rfl) (by kernel_rfl) ?_
  refine r_seq ?_
  refine r_region' ?_
  refine l_o (o_box rfl rfl rfl ?_)
  intro b1 w1 hzl1 hzr1 _ hb1 hE1
  have hbs_b1 : w.heap.size ≤ b1 := Nat.le_trans hsz hzl1
  replace hB := below_ext hB hE1 hsz
  replace hsz := Nat.le_trans hsz hE1.size
  refine l_q (q_assign (v := .slice _ _ _) rfl rfl) ?_
  refine l_q (q_assign (v := .slice _ _ _) rfl rfl) ?_
  refine l_q (q_assign (v := .int _ _) rfl rfl) ?_
  refine l_nil ?_
  refine r_forget [(1, .int _ _), (2, .slice _ _ _), (3, .pointer _)] ⟨rfl, rfl, rfl, trivial⟩ (fun e2 => ?_)
  refine r_seq ?_
  refine r_seq ?_
  have hlt_b1 := hb1.lt
  refine r_region' ?_
  refine l_q (q_load_agg (n := 4) Try.isAgg41 Try.sizeOf41 rfl ((hb1.cells' (cs' := [_, _, _, _]) 0 4 rfl)) rfl rfl) ?_
  have hbl_b1 := hb1.lt
  refine l_o (o_call Try.call20 rfl (checkBook_ret _ _ _ _ _ _ ks ds _ (hka.below hB) (hda.below hB) hok0) rfl ?_)
  rintro _ w3 ⟨rfl, hE3⟩
  replace hB := below_ext hB hE3 hsz
  replace hb1 := hb1.ext hE3
  replace hsz := Nat.le_trans hsz hE3.size
  refine l_q (q_assign (v := .int _ _) rfl rfl) ?_
  refine l_nil ?_
  refine r_forget [(1, .int _ _), (2, .slice _ _ _), (3, .pointer _), (9, .int _ _)] ⟨rfl, rfl, rfl, rfl, trivial⟩ (fun e4 => ?_)
  refine r_seq ?_
  refine r_region' ?_
  refine l_q (q_move (v := .int _ _) rfl rfl) ?_
  refine l_q (q_neq rfl rfl rfl) ?_
  refine l_nil ?_
  refine r_forget [(1, .int _ _), (2, .slice _ _ _), (3, .pointer _), (9, .int _ _), (14, .bool _)] ⟨rfl, rfl, rfl, rfl, rfl, trivial⟩ (fun e5 => ?_)
  have hk6 : (!decide (0 = 0)) = false := by decide
  refine r_cond_f ((congrArg Value.bool hk6 : Value.bool _ = _)) ?_
  refine r_skip ?_
  refine r_seq ?_
  refine r_region' ?_
  refine l_q (q_move (v := .slice _ _ _) rfl rfl) ?_
  have hbl_b1 := hb1.lt
  refine l_q (q_len rfl Try.underlying26 rfl rfl) ?_
  refine l_q (q_sub rfl rfl (by omega) rfl) ?_
  refine l_q (q_assign (v := .int _ _) rfl rfl) ?_
  refine l_nil ?_
  refine r_forget [(1, .int _ _), (2, .slice _ _ _), (3, .pointer _), (10, .int _ _)] ⟨rfl, rfl, rfl, rfl, trivial⟩ (fun e7 => ?_)
  refine r_seq ?_
  refine r_block ?_
  refine r_seq ?_
  refine r_forget [(1, .int _ _), (2, .slice _ _ _), (3, .pointer _), (10, vint ((xs.length - 1 : Nat) : Int))] ⟨rfl, rfl, rfl, vint_eq (by omega), trivial⟩ (fun e8 => ?_)
  refine r_region' ?_
  refine l_q (q_load_agg (n := 4) Try.isAgg41 Try.sizeOf41 rfl ((hb1.cells' (cs' := [_, _, _, _]) 0 4 rfl)) rfl rfl) ?_
  refine l_q (q_move (v := .int _ _) rfl rfl) ?_
  have hbl_b1 := hb1.lt
  refine l_o (o_call Try.call21 rfl (bday_ret _ _ _ _ _ _ ds.length _ (d : Int) _ (by omega)) rfl ?_)
  rintro _ w9 ⟨rfl, hE9⟩
  replace hB := below_ext hB hE9 hsz
  replace hb1 := hb1.ext hE9
  replace hsz := Nat.le_trans hsz hE9.size
  refine l_q (q_not rfl rfl) ?_
  refine l_q (q_assign (v := .bool _) rfl rfl) ?_
  refine l_nil ?_
  refine r_forget [(1, .int _ _), (2, .slice _ _ _), (3, .pointer _), (10, .int _ _), (19, .bool _)] ⟨rfl, rfl, rfl, rfl, rfl, trivial⟩ (fun e10 => ?_)
  have hk11 : (!(decide (0 ≤ (d : Int)) && decide ((d : Int) ≤ (ds.length : Int) - 1))) = false := by simp; omega
  refine r_cond_f ((congrArg Value.bool hk11 : Value.bool _ = _)) ?_
  refine r_seq ?_
  refine r_region' ?_
  refine l_q (q_move (v := .int _ _) rfl rfl) ?_
  have hbl_b1 := hb1.lt
  refine l_o (o_call Try.call36 rfl (cwithin_ret _ _ _ _) rfl ?_)
  rintro _ w12 ⟨rfl, rfl⟩
  refine l_q (q_not rfl rfl) ?_
  refine l_q (q_move (v := .bool _) rfl rfl) ?_
  have hk13 : (!(decide (1 ≤ ((xs.length - 1 : Nat) : Int)) && decide (((xs.length - 1 : Nat) : Int) ≤ 11))) = false := by simp; omega
  refine l_part 28 rfl (fun hx => absurd (hk13.symm.trans hx) (by decide)) (fun _ => ?_)
  refine l_q (q_move (v := .slice _ _ _) rfl rfl) ?_
  refine l_q (q_load_agg (n := 4) Try.isAgg41 Try.sizeOf41 rfl ((hb1.cells' (cs' := [_, _, _, _]) 0 4 rfl)) rfl rfl) ?_
  refine l_q (q_makeFunc (v := .func _ ⟨[_]⟩ ⟨[]⟩) rfl rfl) ?_
  have hbl_b1 := hb1.lt
  refine l_o (o_call Try.call22 rfl (all_int_of 0 (q := inS S) Try.call23 (hx.below hB) (fun w' hw x hx => bplain_ret _ _ _ _ _ _ _ _ _ _ hSr) (by omega)) rfl ?_)
  rintro _ w14 ⟨rfl, hE14⟩
  replace hB := below_ext hB hE14 hsz
  replace hb1 := hb1.ext hE14
  replace hsz := Nat.le_trans hsz hE14.size
  refine l_q (q_not rfl rfl) ?_
  refine l_q (q_pick_f (v := .bool _) rfl rfl rfl) ?_
  refine l_q (q_assign (v := .bool _) rfl rfl) ?_
  refine l_nil ?_
  refine r_forget [(1, .int _ _), (2, .slice _ _ _), (3, .pointer _), (10, .int _ _), (24, .bool _)] ⟨rfl, rfl, rfl, rfl, rfl, trivial⟩ (fun e15 => ?_)
  have hk16 : (!(xs.all (inS S))) = false := by rw [List.all_eq_true.2 hxs]; rfl
  refine r_cond_f ((congrArg Value.bool hk16 : Value.bool _ = _)) ?_
  refine r_seq ?_
  refine r_draw ext_refl' ext_trans' [0, 1, 2, 3, 4, 5, 6, 7] [5] 6 (by kernel_rfl) (by kernel_rfl) ?_
  intro w17 _ hE17
  replace hB := below_ext hB hE17 hsz
  replace hb1 := hb1.ext hE17
  replace hsz := Nat.le_trans hsz hE17.size
  refine m_q rfl rfl (fun w' hC' => q_move (v := .slice _ _ _) rfl rfl) ?_
  obtain ⟨b18, o18, ha18, hh18⟩ := (hx.below hB).at1 0 ((xs).getD 0 0) (getD_some (by omega))
  refine m_q rfl rfl (fun w' hC' => q_indexAddr1 Try.underlying26 Try.sizeOf3 rfl ha18 rfl (by omega) rfl) ?_
  refine m_q rfl rfl (fun w' hC' => q_load Try.isAgg3 rfl ((hh18.ext hC')) rfl) ?_
  refine m_q rfl rfl (fun w' hC' => q_load_agg (n := 4) Try.isAgg41 Try.sizeOf41 rfl (((hb1.cells' (cs' := [_, _, _, _]) 0 4 rfl).ext hC')) rfl rfl) ?_
  refine m_q rfl rfl (fun w' hC' => q_move (v := .int _ _) rfl rfl) ?_
  have hbl_b1 := hb1.lt
  refine m_o rfl rfl (o_call Try.call24 rfl (indicator_ret _ _ _ ks.length _ _ _ ds d _ (hda.below hB) (by omega) (fun x hx => by have := hdd x hx; omega) hd (by omega)) rfl ?_)
  rintro _ w19 ⟨rfl, hE19⟩
  refine ⟨hE19, ?_⟩
  replace hB := below_ext hB hE19 hsz
  replace hb1 := hb1.ext hE19
  replace hsz := Nat.le_trans hsz hE19.size
  refine m_q rfl rfl (fun w' hC' => q_neq rfl rfl rfl) ?_
  refine m_q rfl rfl (fun w' hC' => q_assign (v := .bool _) rfl rfl) ?_
  refine m_nil ?_
  refine r_forget [(1, .int _ _), (2, .slice _ _ _), (3, .pointer _), (10, .int _ _), (35, .bool _)] ⟨rfl, rfl, rfl, rfl, rfl, trivial⟩ (fun e20 => ?_)
  refine r_cond rfl (fun hc21 => ?_) (fun hc21 => ?_)
  · skip
    try simp only [decide_eq_true_eq, decide_eq_false_iff_not, Bool.not_eq_true', Bool.not_eq_false', Bool.not_not, Bool.not_true, Bool.not_false, Bool.not_eq_true, Bool.not_eq_false, Int.not_lt, Int.not_le, Bool.and_eq_true, Bool.or_eq_true, Bool.and_eq_false_iff, Bool.or_eq_false_iff] at hc21
    have hz1 := hc21
    refine r_seq ?_
    refine r_region' ?_
    refine l_q (q_assign (v := .slice _ _ _) rfl rfl) ?_
    refine l_q (q_assign (v := .slice _ _ _) rfl rfl) ?_
    refine l_q (q_assign (v := .int _ _) rfl rfl) ?_
    refine l_nil ?_
    refine r_forget [(6, .slice _ _ _), (7, .slice _ _ _), (8, .int _ _)] ⟨rfl, rfl, rfl, trivial⟩ (fun e22 => ?_)
    refine r_ret_ (vs := [.slice _ _ _, .slice _ _ _, .int _ _]) rfl Try.func13 rfl (.nil _) ⟨rfl, rfl, rfl, trivial⟩ ?_
    exact ⟨none, 0, none, 0, 0, 8, [], rfl, Row.nil _ _ _ _, dec_8 hz1, Ext.of_below hB⟩
  · skip
    try simp only [decide_eq_true_eq, decide_eq_false_iff_not, Bool.not_eq_true', Bool.not_eq_false', Bool.not_not, Bool.not_true, Bool.not_false, Bool.not_eq_true, Bool.not_eq_false, Int.not_lt, Int.not_le, Bool.and_eq_true, Bool.or_eq_true, Bool.and_eq_false_iff, Bool.or_eq_false_iff] at hc21
    have hz1 := hc21
    refine r_seq ?_
    refine r_draw ext_refl' ext_trans' [0, 1, 2, 3, 4, 5, 6, 7, 8, 9, 10] [8] 9 (by kernel_rfl) (by kernel_rfl) ?_
    intro w23 _ hE23
    replace hB := below_ext hB hE23 hsz
    replace hb1 := hb1.ext hE23
    replace hsz := Nat.le_trans hsz hE23.size
    refine m_q rfl rfl (fun w' hC' => q_move (v := .slice _ _ _) rfl rfl) ?_
    refine m_q rfl rfl (fun w' hC' => q_move (v := .int _ _) rfl rfl) ?_
    obtain ⟨b24, o24, ha24, hh24⟩ := (hx.below hB).at1 (xs.length - 1) ((xs).getD (xs.length - 1) 0) (getD_some (by omega))
    refine m_q rfl rfl (fun w' hC' => q_indexAddr1 Try.underlying26 Try.sizeOf3 rfl ha24 rfl (by omega) rfl) ?_
    refine m_q rfl rfl (fun w' hC' => q_load Try.isAgg3 rfl ((hh24.ext hC')) rfl) ?_
    refine m_q rfl rfl (fun w' hC' => q_load_agg (n := 4) Try.isAgg41 Try.sizeOf41 rfl (((hb1.cells' (cs' := [_, _, _, _]) 0 4 rfl).ext hC')) rfl rfl) ?_
    refine m_q rfl rfl (fun w' hC' => q_move (v := .slice _ _ _) rfl rfl) ?_
    refine m_q rfl rfl (fun w' hC' => q_move (v := .int _ _) rfl rfl) ?_
    obtain ⟨a25, c25, hr25, hv25⟩ := slice_ex_hi (f := vint) (xs := xs) (((xs.length - 1 : Nat) : Int)) (hx.below hB) (by omega)
    refine m_q rfl rfl (fun w' hC' => (q_slice (lo := 0) (hi := ((xs.length - 1 : Nat) : Int)) Try.underlying26 Try.sizeOf3 rfl rfl rfl (by omega) (hx.below hB).2.1 rfl).cast hv25) ?_
    have hbl_b1 := hb1.lt
    refine m_o rfl rfl (o_call Try.call27 rfl (check4_ret S W ka ks.length kc da ds.length dc _ _ (xs.take (xs.length - 1)) _ hSr hr25 (by rw [List.length_take]; omega) (by rw [List.length_take]; omega) (fun x hx => in41 hSr (hxs x (List.mem_of_mem_take hx)))) rfl ?_)
    rintro _ w26 ⟨rfl, hE26⟩
    refine ⟨hE26, ?_⟩
    replace hB := below_ext hB hE26 hsz
    replace hb1 := hb1.ext hE26
    replace hr25 := hr25.ext hE26
    replace hsz := Nat.le_trans hsz hE26.size
    refine m_q rfl rfl (fun w' hC' => q_neq rfl rfl rfl) ?_
    refine m_q rfl rfl (fun w' hC' => q_assign (v := .bool _) rfl rfl) ?_
    refine m_nil ?_
    refine r_forget [(1, .int _ _), (2, .slice _ _ _), (3, .pointer _), (10, .int _ _), (43, .bool _)] ⟨rfl, rfl, rfl, rfl, rfl, trivial⟩ (fun e27 => ?_)
    refine r_cond rfl (fun hc28 => ?_) (fun hc28 => ?_)
    · skip
      try simp only [decide_eq_true_eq, decide_eq_false_iff_not, Bool.not_eq_true', Bool.not_eq_false', Bool.not_not, Bool.not_true, Bool.not_false, Bool.not_eq_true, Bool.not_eq_false, Int.not_lt, Int.not_le, Bool.and_eq_true, Bool.or_eq_true, Bool.and_eq_false_iff, Bool.or_eq_false_iff] at hc28
      have hz2 := hc28
      refine r_seq ?_
      refine r_region' ?_
      refine l_q (q_assign (v := .slice _ _ _) rfl rfl) ?_
      refine l_q (q_assign (v := .slice _ _ _) rfl rfl) ?_
      refine l_q (q_assign (v := .int _ _) rfl rfl) ?_
      refine l_nil ?_
      refine r_forget [(6, .slice _ _ _), (7, .slice _ _ _), (8, .int _ _)] ⟨rfl, rfl, rfl, trivial⟩ (fun e29 => ?_)
      refine r_ret_ (vs := [.slice _ _ _, .slice _ _ _, .int _ _]) rfl Try.func13 rfl (.nil _) ⟨rfl, rfl, rfl, trivial⟩ ?_
      exact ⟨none, 0, none, 0, 0, 11, [], rfl, Row.nil _ _ _ _, dec_11 hz1 hz2, Ext.of_below hB⟩
    · skip
      try simp only [decide_eq_true_eq, decide_eq_false_iff_not, Bool.not_eq_true', Bool.not_eq_false', Bool.not_not, Bool.not_true, Bool.not_false, Bool.not_eq_true, Bool.not_eq_false, Int.not_lt, Int.not_le, Bool.and_eq_true, Bool.or_eq_true, Bool.and_eq_false_iff, Bool.or_eq_false_iff] at hc28
      have hz2 := hc28
      refine r_skip ?_
      refine r_inBlock ?_
      refine r_seq ?_
      refine r_draw ext_refl' ext_trans' [0, 1, 2, 3, 4, 5, 6, 7, 8, 9, 10, 11, 12, 13, 14, 15] [14] 9 (by kernel_rfl) (by kernel_rfl) ?_
      intro w30 _ hE30
      replace hB := below_ext hB hE30 hsz
      replace hb1 := hb1.ext hE30
      replace hr25 := hr25.ext hE30
      replace hsz := Nat.le_trans hsz hE30.size
      refine m_q rfl rfl (fun w' hC' => q_load_agg (n := 4) Try.isAgg41 Try.sizeOf41 rfl (((hb1.cells' (cs' := [_, _, _, _]) 0 4 rfl).ext hC')) rfl rfl) ?_
      refine m_q rfl rfl (fun w' hC' => q_build (v := .agg ⟨[.func (.func 37) ⟨[]⟩ ⟨[]⟩]⟩) (fun w => by kernel_rfl) rfl) ?_
      refine m_q rfl rfl (fun w' hC' => q_fieldAddr (o' := 2) rfl fld41_2 rfl) ?_
      refine m_q rfl rfl (fun w' hC' => q_load Try.isAgg39 rfl (((hb1.has (o := 2) rfl).ext hC')) rfl) ?_
      refine m_q rfl rfl (fun w' hC' => q_fieldAddr (o' := 3) rfl fld41_3 rfl) ?_
      refine m_q rfl rfl (fun w' hC' => q_load Try.isAgg26 rfl (((hb1.has (o := 3) rfl).ext hC')) rfl) ?_
      refine m_q rfl rfl (fun w' hC' => q_move (v := .int _ _) rfl rfl) ?_
      obtain ⟨b31, o31, ha31, hh31⟩ := (hda.below hB).at1 d ((ds).getD d 0) (getD_some (by omega))
      refine m_q rfl rfl (fun w' hC' => q_indexAddr1 Try.underlying26 Try.sizeOf3 rfl ha31 rfl (by omega) rfl) ?_
      refine m_q rfl rfl (fun w' hC' => q_load Try.isAgg3 rfl ((hh31.ext hC')) rfl) ?_
      obtain ⟨b32, o32, ha32, hh32⟩ := (hka.below hB).at (by decide) ((ds).getD d 0).toNat (by omega)
      refine m_q rfl rfl (fun w' hC' => q_indexAddr Try.underlying39 Try.sizeOf54 rfl ha32 rfl (by omega) rfl) ?_
      refine m_q rfl rfl (fun w' hC' => q_load_agg (cs := [vint (((ks).getD ((ds).getD d 0).toNat k0).m), vint (((ks).getD ((ds).getD d 0).toNat k0).a), vint (((ks).getD ((ds).getD d 0).toNat k0).s)]) (n := 3) Try.isAgg54 Try.sizeOf54 rfl (((cells_cast (wide_at K3.len k0 _ _ (by omega)) hh32).ext hC')) rfl rfl) ?_
      refine m_q rfl rfl (fun w' hC' => q_move (v := .slice _ _ _) rfl rfl) ?_
      refine m_q rfl rfl (fun w' hC' => q_move (v := .int _ _) rfl rfl) ?_
      obtain ⟨a33, c33, hr33, hv33⟩ := slice_ex (f := vint) (xs := xs) (1) (((xs.length - 1 : Nat) : Int)) (hx.below hB) (by omega)
      refine m_q rfl rfl (fun w' hC' => (q_slice (lo := 1) (hi := ((xs.length - 1 : Nat) : Int)) Try.underlying26 Try.sizeOf3 rfl rfl rfl (by omega) (hx.below hB).2.1 rfl).cast hv33) ?_
      have hbl_b1 := hb1.lt
      refine m_o rfl rfl (o_call Try.call25 rfl (turned_ret S W ka ks.length kc da ds.length dc _ _ _ 37 (decI S (keyAt ks ds d) ((xs.take (xs.length - 1)).drop 1)) _ _ ((xs.take (xs.length - 1)).drop 1) _ Try.call37 (fun i hi w' hw => decode4_ret _ _ _ _ _ _ _ _ _ _ _ _ _ _ hSr (by omega) (by omega) (by omega) (in41 hSr (hxs _ (List.mem_of_mem_take (List.mem_of_mem_drop (getD_lt (d := 0) hi))))) (by have := len_td xs; omega)) hr33 (by first | omega | (have := len_td xs; omega))) rfl ?_)
      rintro _ w34 ⟨a34_0, c34_0, rfl, ho34_0, hE34⟩
      replace ho34_0 := own_mono ho34_0 (show b1 + 1 ≤ _ by omega)
      refine ⟨hE34, ?_⟩
      replace hB := below_ext hB hE34 hsz
      replace hb1 := hb1.ext hE34
      replace hr25 := hr25.ext hE34
      replace hr33 := hr33.ext hE34
      replace hsz := Nat.le_trans hsz hE34.size
      refine m_q rfl rfl (fun w' hC' => q_assign (v := .slice _ _ _) rfl rfl) ?_
      refine m_nil ?_
      refine r_forget [(3, .pointer _), (6, .slice _ _ _)] ⟨rfl, rfl, trivial⟩ (fun e35 => ?_)
      refine r_seq ?_
      refine r_region' ?_
      refine l_q (q_move (v := .slice _ _ _) rfl rfl) ?_
      have hold_hb1 := hb1
      have hold_hr25 := hr25
      have hold_hr33 := hr33
      have hold_ho34_0 := ho34_0
      have hold_hB := hB
      have hold_hsz := hsz
      have hpre_b1 := hb1.lt
      have hbl_b1 := hb1.lt
      refine l_o (o_call Try.call39 rfl (clone_ret _ _ ((List.range (((xs.take (xs.length - 1)).drop 1)).length).map (decI S (keyAt ks ds d) ((xs.take (xs.length - 1)).drop 1))) _ (Row.of_owns ho34_0) (by rw [List.length_map, List.length_range]; have := len_td xs; omega)) rfl ?_)
      rintro _ w36 ⟨cla, clc, rfl, hcl, hE36⟩
      replace hB := below_ext hB hE36 hsz
      replace hb1 := hb1.ext hE36
      replace hr25 := hr25.ext hE36
      replace hr33 := hr33.ext hE36
      replace ho34_0 := own_ext ho34_0 hE36
      replace hsz := Nat.le_trans hsz hE36.size
      have hszcl := hE36.size
      refine l_q (q_makeFunc (v := .func _ ⟨[]⟩ ⟨[_]⟩) rfl rfl) ?_
      have hbl_b1 := hb1.lt
      refine l_o (o_call Try.call38 rfl (del_ret _ _ _ _ _ _ _ _ _ _ _ _ ((List.range (((xs.take (xs.length - 1)).drop 1)).length).map (decI S (keyAt ks ds d) ((xs.take (xs.length - 1)).drop 1))) _ hcl hb1 (by omega) (by omega) (by rw [List.length_map, List.length_range]; have := len_td xs; omega)) rfl ?_)
      rintro _ w37 ⟨⟨da9, dn9, dc9, rfl⟩, hdB⟩
      have hEd := Ext.of_below ((Ext.below hE36).trans hdB)
      replace hb1 := hold_hb1.ext hEd
      replace hr25 := hold_hr25.ext hEd
      replace hr33 := hold_hr33.ext hEd
      replace ho34_0 := own_ext hold_ho34_0 hEd
      replace hB := below_ext hold_hB hEd hold_hsz
      replace hsz := Nat.le_trans hold_hsz hEd.size
      refine l_q (q_assign (v := .slice _ _ _) rfl rfl) ?_
      refine l_nil ?_
      refine r_forget [(6, .slice _ _ _), (7, .slice _ _ _)] ⟨rfl, rfl, trivial⟩ (fun e38 => ?_)
      refine r_seq ?_
      refine r_region' ?_
      refine l_q (q_move (v := .slice _ _ _) rfl rfl) ?_
      refine l_q (q_move (v := .slice _ _ _) rfl rfl) ?_
      refine l_q (q_assign (v := .slice _ _ _) rfl rfl) ?_
      refine l_q (q_assign (v := .slice _ _ _) rfl rfl) ?_
      refine l_q (q_assign (v := .int _ _) rfl rfl) ?_
      refine l_nil ?_
      refine r_forget [(6, .slice _ _ _), (7, .slice _ _ _), (8, .int _ _)] ⟨rfl, rfl, rfl, trivial⟩ (fun e39 => ?_)
      refine r_ret_ (vs := [.slice _ _ _, .slice _ _ _, .int _ _]) rfl Try.func13 rfl (.nil _) ⟨rfl, rfl, rfl, trivial⟩ ?_
      exact ⟨_, _, _, _, _, 0, _, rfl, (Row.of_owns ho34_0), dec_0 hz1 hz2, Ext.of_below hB⟩
end Go.Proofs.Ytfbjllabgkabkaa
