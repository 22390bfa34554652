/- Contracts. -/
import Derived.Test.YtgdanglidienmaaR17
set_option linter.unusedVariables false
set_option linter.unusedSimpArgs false
namespace Go.Proofs.Ytgdanglidienmaa
open Go Go.RowKit Go.Gv Go.Fl

theorem two_pow8 {n : Nat} (h : n ≤ 8) : ∃ N : Nat, (2 : Int) ^ ((n : Int).toNat) = N ∧ N ≤ 256 ∧ N = 2 ^ n := by
  refine ⟨2 ^ n, ?_, ?_, rfl⟩
  · simp
  · exact Nat.le_trans (Nat.pow_le_pow_right (by decide) h) (by decide)
theorem okRG_t {x : RG} (h : 0 ≤ x.lo ∧ x.lo ≤ x.hi ∧ x.hi ≤ 100) : okRG x = true := by unfold okRG; simp only [Bool.and_eq_true, decide_eq_true_eq]; exact h
theorem okRG_f {x : RG} (h : x.lo < 0 ∨ x.hi < x.lo ∨ 100 < x.hi) : okRG x = false := by rw [← Bool.not_eq_true]; unfold okRG; simp only [Bool.and_eq_true, decide_eq_true_eq]; omega
theorem getD_nn {l : List Int} (h : ∀ y ∈ l, 0 ≤ y) (k : Nat) : 0 ≤ l.getD k 0 := by
  by_cases hk : k < l.length
  · exact h _ (getD_lt hk)
  · rw [List.getD_eq_getElem?_getD, List.getElem?_eq_none (by omega)]; decide
def pkB (hi : Bool) (x : RG) : Int := if hi = true then x.hi else x.lo
theorem ends_step {hi : Bool} {G : List RG} {k : Nat} (h : k < G.length) : (G.take k).map (pkB hi) ++ [pkB hi (G.getD k rg0)] = (G.take (k + 1)).map (pkB hi) := by
  rw [List.take_add_one, List.getElem?_eq_getElem h, List.map_append, List.getD_eq_getElem?_getD, List.getElem?_eq_getElem h]; rfl
theorem pk_bnd {G : List RG} {hi : Bool} (hok : ∀ x ∈ G, okRG x = true) : ∀ y ∈ G.map (pkB hi), 0 ≤ y ∧ y ≤ 100 := fun y hy => by
  obtain ⟨x, hx, rfl⟩ := List.mem_map.1 hy
  unfold pkB
  split
  · exact okRG_hi (hok x hx)
  · exact okRG_lo (hok x hx)
theorem pk_hi {G : List RG} : G.map (pkB true) = G.map (fun x => x.hi) := rfl
theorem stays_no {fl : Int} {G : List RG} {xs : List Int} {k : Nat} (hk : k < G.length) (h : (dimsT xs (G.map (pkB true)) G.length).getD k 0 < fl) : staysB fl G xs = false := by
  rw [← Bool.not_eq_true, stays_iff]
  intro h2
  have := h2 k hk
  rw [dimsT_at hk, pk_hi] at h
  omega
theorem stays_yes {fl : Int} {G : List RG} {xs : List Int} (h : ∀ k, k < G.length → fl ≤ (dimsT xs (G.map (pkB true)) G.length).getD k 0) : staysB fl G xs = true := by
  rw [stays_iff]
  intro k hk
  have := h k hk
  rwa [dimsT_at hk, pk_hi] at this
def polS (fl : Int) (G : List RG) (b : List Int) (k : Nat) : List Int := if (ltL (bitsL k) b && staysB fl G (bitsL k)) = true then bitsL k else b
def polN (fl : Int) (G : List RG) (k : Nat) : List Int := (List.range k).foldl (polS fl G) (bitsL (2 ^ G.length - 1))
theorem polN_succ {fl : Int} {G : List RG} {k : Nat} : polN fl G (k + 1) = polS fl G (polN fl G k) k := by unfold polN; rw [List.range_succ, List.foldl_append]; rfl
section
variable {fl : Int} {G : List RG} {k : Nat} {B : List Int}
theorem pn_take (h : B = polN fl G k) (h1 : ltL (bitsL k) B = true) (h2 : staysB fl G (bitsL k) = true) : bitsL k = polN fl G (k + 1) := by rw [polN_succ, ← h]; unfold polS; rw [h1, h2]; rfl
theorem pn_keep1 (h : B = polN fl G k) (h1 : ltL (bitsL k) B = false) : B = polN fl G (k + 1) := by rw [polN_succ, ← h]; unfold polS; rw [h1]; rfl
theorem pn_keep2 (h : B = polN fl G k) (h1 : ltL (bitsL k) B = true) (h2 : staysB fl G (bitsL k) = false) : B = polN fl G (k + 1) := by rw [polN_succ, ← h]; unfold polS; rw [h1, h2]; rfl
end

theorem fld38_1 (w : World) (b o : Nat) : (Instr.fieldAt 38 (ptr b o) 1).run Try.prog w = .ok (ptr b (o + 1)) w := by
  simp [Instr.fieldAt, run_underlying Try.underlying38, fieldPlace, Instr.sureAddr, Try.sizeOf36, Addr.add_lit]
theorem fld38_0 (w : World) (b o : Nat) : (Instr.fieldAt 38 (ptr b o) 0).run Try.prog w = .ok (ptr b (o + 0)) w := by
  simp [Instr.fieldAt, run_underlying Try.underlying38, fieldPlace, Instr.sureAddr, Try.sizeOf3, Addr.add_lit]
theorem fld78_0 (w : World) (b o : Nat) : (Instr.fieldAt 78 (ptr b o) 0).run Try.prog w = .ok (ptr b (o + 0)) w := by
  simp [Instr.fieldAt, run_underlying Try.underlying78, fieldPlace, Instr.sureAddr, Try.sizeOf3, Addr.add_lit]
theorem fld78_1 (w : World) (b o : Nat) : (Instr.fieldAt 78 (ptr b o) 1).run Try.prog w = .ok (ptr b (o + 1)) w := by
  simp [Instr.fieldAt, run_underlying Try.underlying78, fieldPlace, Instr.sureAddr, Try.sizeOf3, Addr.add_lit]
theorem mfault10_ret (fl : Int) (ga : Option Addr) (gc : Nat) (G : List RG) (w : World) (hG : Row w ga G.length gc 2 (G.flatMap RG.enc)) (hGn : G.length ≤ 2097152) : Ret Try.prog 10 [.agg ⟨[vint fl, .slice ga G.length gc]⟩] w (fun v w' => v = vint (mfault fl G) ∧ Ext w w') := by
 have hB := Below.refl w.heap.size w
 have hsz : w.heap.size ≤ w.heap.size := Nat.le_refl _
 refine ret_of_runs (args := [_]) Try.func10 rfl (Nat.le_of_ble_eq_true rfl) (by kernel_rfl) ?_
 refine r_seq (r_region' ?_)
 refine l_o (o_box rfl rfl rfl ?_)
 intro b1 w1 hzl1 hzr1 _ hb1 hE1
 have hbs_b1 : w.heap.size ≤ b1 := Nat.le_trans hsz hzl1
 replace hB := below_ext hB hE1 hsz
 replace hsz := Nat.le_trans hsz hE1.size
 refine l_q (q_assign (v := .int _ _) rfl rfl) ?_
 refine l_nil (r_seq (r_seq (r_region' ?_)))
 refine l_q (q_fieldAddr (o' := 1) rfl fld38_1 rfl) ?_
 refine l_q (q_load Try.isAgg36 rfl ((hb1.has (o := 1) rfl)) rfl) ?_
 refine l_q (q_len rfl Try.underlying36 rfl rfl) ?_
 refine l_q (q_gtr rfl rfl rfl) ?_
 refine l_nil ?_
 refine r_cond rfl (fun hc2 => ?_) (fun hc2 => ?_)
 ·
  replace hc2 := dt hc2
  have g8 := hc2
  refine r_seq (r_region' ?_)
  refine l_q (q_assign (v := .int _ _) rfl rfl) ?_
  refine l_nil ?_
  refine r_ret_ (vs := [.int _ _]) rfl Try.func10 rfl (.nil _) ⟨rfl, trivial⟩ ?_
  exact ⟨vint_eq (mf_3 (by omega)).symm, Ext.of_below hB⟩
 ·
  replace hc2 := dlt hc2
  have g8 := hc2
  refine r_skip (r_seq (r_seq (r_region' ?_)))
  refine l_q (q_fieldAddr (o' := 0) rfl fld38_0 rfl) ?_
  refine l_q (q_load Try.isAgg3 rfl ((hb1.has (o := 0) rfl)) rfl) ?_
  refine l_o (o_call Try.call32 rfl (in10_ret _ _ _ _) rfl ?_)
  rintro _ w3 ⟨rfl, rfl⟩
  refine l_q (q_not rfl rfl) ?_
  refine l_q (q_move (v := .bool _) rfl rfl) ?_
  refine l_part 13 rfl (fun hc4 => ?_) (fun hc4 => ?_)
  ·
   replace hc4 := b2f (nt hc4)
   have g13 := hc4
   refine l_q (q_skip rfl) ?_
   refine l_q (q_skip rfl) ?_
   refine l_q (q_skip rfl) ?_
   refine l_q (q_skip rfl) ?_
   refine l_q (q_pick_t (v := .bool _) rfl rfl rfl) ?_
   refine l_nil ?_
   refine r_forget [(1, .pointer _), (18, .bool _)] ⟨rfl, rfl, trivial⟩ (fun e5 => ?_)
   refine r_cond_t rfl ?_
   refine r_seq (r_region' ?_)
   refine l_q (q_assign (v := .int _ _) rfl rfl) ?_
   refine l_nil ?_
   refine r_ret_ (vs := [.int _ _]) rfl Try.func10 rfl (.nil _) ⟨rfl, trivial⟩ ?_
   exact ⟨vint_eq (mf_1 (by omega) (fun ⟨h1, h2, h3⟩ => by omega)).symm, Ext.of_below hB⟩
  ·
   replace hc4 := b2t (nf hc4)
   have g13 := hc4
   refine l_q (q_fieldAddr (o' := 1) rfl fld38_1 rfl) ?_
   refine l_q (q_load Try.isAgg36 rfl ((hb1.has (o := 1) rfl)) rfl) ?_
   refine l_q (q_len rfl Try.underlying36 rfl rfl) ?_
   refine l_q (q_eql rfl rfl rfl) ?_
   refine l_q (q_pick_f (v := .bool _) rfl rfl rfl) ?_
   refine l_nil ?_
   refine r_forget [(1, .pointer _), (18, .bool _)] ⟨rfl, rfl, trivial⟩ (fun e6 => ?_)
   refine r_cond rfl (fun hc7 => ?_) (fun hc7 => ?_)
   ·
    replace hc7 := dt hc7
    have g18 := hc7
    refine r_seq (r_region' ?_)
    refine l_q (q_assign (v := .int _ _) rfl rfl) ?_
    refine l_nil ?_
    refine r_ret_ (vs := [.int _ _]) rfl Try.func10 rfl (.nil _) ⟨rfl, trivial⟩ ?_
    exact ⟨vint_eq (mf_1 (by omega) (fun ⟨h1, h2, h3⟩ => by omega)).symm, Ext.of_below hB⟩
   ·
    replace hc7 := df hc7
    have g18 := hc7
    refine r_skip (r_seq (r_seq (r_region' ?_)))
    refine l_q (q_assign (v := .int _ _) rfl rfl) ?_
    refine l_nil (r_block ?_)
    refine r_rounds (α := Nat) (fun k e wl => Knows e [(1, ptr b1 0), (3, vint (k : Int))] ∧ (k ≤ G.length) ∧ (∀ j, j < k → okRG (G.getD j rg0) = true) ∧ (Blk wl b1 [vint fl, .slice ga G.length gc]) ∧ (w.heap.size ≤ wl.heap.size) ∧ (Below w.heap.size w wl)) (fun k => G.length - k) 0 ?_ ?_
    ·
     exact ⟨⟨rfl, rfl, trivial⟩, (Nat.zero_le _), (fun i hi => absurd hi (Nat.not_lt_zero _)), hb1, hsz, hB⟩
    ·
     rintro k el8 wl8 ⟨hkn, hkk, hq, hb1, hsz, hB⟩ ih8
     obtain ⟨e8, rfl⟩ := knows_env hkn
     refine r_seq (r_seq (r_region' ?_))
     refine l_q (q_move (v := .int _ _) rfl rfl) ?_
     refine l_q (q_fieldAddr (o' := 1) rfl fld38_1 rfl) ?_
     refine l_q (q_load Try.isAgg36 rfl ((hb1.has (o := 1) rfl)) rfl) ?_
     refine l_q (q_len rfl Try.underlying36 rfl rfl) ?_
     refine l_q (q_lss rfl rfl rfl) ?_
     refine l_nil ?_
     refine r_cond rfl (fun hc9 => ?_) (fun hc9 => ?_)
     ·
      replace hc9 := dt hc9
      have hkG : k < G.length := by omega
      refine r_skip (r_seq (r_block (r_seq (r_region' ?_))))
      refine l_q (q_fieldAddr (o' := 1) rfl fld38_1 rfl) ?_
      refine l_q (q_load Try.isAgg36 rfl ((hb1.has (o := 1) rfl)) rfl) ?_
      refine l_q (q_move (v := .int _ _) rfl rfl) ?_
      obtain ⟨b10, o10, ha10, hh10⟩ := (hG.below hB).at (by decide) k (by omega)
      refine l_q (q_indexAddr Try.underlying36 Try.sizeOf78 rfl ha10 rfl (by omega) rfl) ?_
      refine l_q (q_load_agg (cs := [vint (((G).getD k rg0).lo), vint (((G).getD k rg0).hi)]) (n := 2) Try.isAgg78 Try.sizeOf78 rfl ((cells_cast (wide_at RG.len rg0 _ _ (by omega)) hh10)) rfl rfl) ?_
      refine l_o (o_alloc Try.zeroValue78 rfl rfl ?_)
      intro b11 w11 hzl11 hzr11 _ hb11 hE11
      have hne_b1_b11 : b1 ≠ b11 := by have := hb1.lt; omega
      have hbs_b11 : w.heap.size ≤ b11 := Nat.le_trans hsz hzl11
      replace hB := below_ext hB hE11 hsz
      replace hb1 := hb1.ext hE11
      replace hsz := Nat.le_trans hsz hE11.size
      refine l_o (o_store (vs := [vint (((G).getD k rg0).lo), vint (((G).getD k rg0).hi)]) (cs' := [vint (((G).getD k rg0).lo), vint (((G).getD k rg0).hi)]) Try.sizeOf78 rfl rfl rfl rfl hb11 (Nat.le_of_ble_eq_true rfl) rfl rfl ?_)
      intro w12 hz12 hb11 hG12
      replace hB := below_upd hB hG12 hsz (by omega)
      replace hsz : w.heap.size ≤ w12.heap.size := by rw [hz12]; exact hsz
      replace hb1 := hb1.upd hG12 (by omega)
      refine l_nil ?_
      refine r_forget [(1, .pointer _), (3, .int _ _), (4, .pointer _)] ⟨rfl, rfl, rfl, trivial⟩ (fun e13 => ?_)
      refine r_seq (r_region' ?_)
      refine l_q (q_fieldAddr (o' := 0) rfl fld78_0 rfl) ?_
      refine l_q (q_load Try.isAgg3 rfl ((hb11.has (o := 0) rfl)) rfl) ?_
      refine l_q (q_lss rfl rfl rfl) ?_
      refine l_q (q_move (v := .bool _) rfl rfl) ?_
      refine l_part 34 rfl (fun hc14 => ?_) (fun hc14 => ?_)
      ·
       replace hc14 := dt hc14
       have g34 := hc14
       refine l_q (q_skip rfl) ?_
       refine l_q (q_skip rfl) ?_
       refine l_q (q_skip rfl) ?_
       refine l_q (q_skip rfl) ?_
       refine l_q (q_skip rfl) ?_
       refine l_q (q_pick_t (v := .bool _) rfl rfl rfl) ?_
       refine l_q (q_move (v := .bool _) rfl rfl) ?_
       refine l_q (q_skip rfl) ?_
       refine l_q (q_skip rfl) ?_
       refine l_q (q_skip rfl) ?_
       refine l_q (q_pick_t (v := .bool _) rfl rfl rfl) ?_
       refine l_nil ?_
       refine r_forget [(1, .pointer _), (3, .int _ _), (45, .bool _)] ⟨rfl, rfl, rfl, trivial⟩ (fun e15 => ?_)
       refine r_cond_t rfl ?_
       refine r_seq (r_region' ?_)
       refine l_q (q_assign (v := .int _ _) rfl rfl) ?_
       refine l_nil ?_
       refine r_ret_ (vs := [.int _ _]) rfl Try.func10 rfl (.nil _) ⟨rfl, trivial⟩ ?_
       exact ⟨vint_eq (mf_1 (by omega) (fun ⟨h1, h2, h3⟩ => by rw [all_bad (d := rg0) hkG (okRG_f (by omega))] at h3; cases h3)).symm, Ext.of_below hB⟩
      ·
       replace hc14 := dlt hc14
       have g34 := hc14
       refine l_q (q_fieldAddr (o' := 0) rfl fld78_0 rfl) ?_
       refine l_q (q_load Try.isAgg3 rfl ((hb11.has (o := 0) rfl)) rfl) ?_
       refine l_q (q_fieldAddr (o' := 1) rfl fld78_1 rfl) ?_
       refine l_q (q_load Try.isAgg3 rfl ((hb11.has (o := 1) rfl)) rfl) ?_
       refine l_q (q_gtr rfl rfl rfl) ?_
       refine l_q (q_pick_f (v := .bool _) rfl rfl rfl) ?_
       refine l_q (q_move (v := .bool _) rfl rfl) ?_
       refine l_part 41 rfl (fun hc16 => ?_) (fun hc16 => ?_)
       ·
        replace hc16 := dt hc16
        have g41 := hc16
        refine l_q (q_skip rfl) ?_
        refine l_q (q_skip rfl) ?_
        refine l_q (q_skip rfl) ?_
        refine l_q (q_pick_t (v := .bool _) rfl rfl rfl) ?_
        refine l_nil ?_
        refine r_forget [(1, .pointer _), (3, .int _ _), (45, .bool _)] ⟨rfl, rfl, rfl, trivial⟩ (fun e17 => ?_)
        refine r_cond_t rfl ?_
        refine r_seq (r_region' ?_)
        refine l_q (q_assign (v := .int _ _) rfl rfl) ?_
        refine l_nil ?_
        refine r_ret_ (vs := [.int _ _]) rfl Try.func10 rfl (.nil _) ⟨rfl, trivial⟩ ?_
        exact ⟨vint_eq (mf_1 (by omega) (fun ⟨h1, h2, h3⟩ => by rw [all_bad (d := rg0) hkG (okRG_f (by omega))] at h3; cases h3)).symm, Ext.of_below hB⟩
       ·
        replace hc16 := dlt hc16
        have g41 := hc16
        refine l_q (q_fieldAddr (o' := 1) rfl fld78_1 rfl) ?_
        refine l_q (q_load Try.isAgg3 rfl ((hb11.has (o := 1) rfl)) rfl) ?_
        refine l_q (q_gtr rfl rfl rfl) ?_
        refine l_q (q_pick_f (v := .bool _) rfl rfl rfl) ?_
        refine l_nil ?_
        refine r_forget [(1, .pointer _), (3, .int _ _), (45, .bool _)] ⟨rfl, rfl, rfl, trivial⟩ (fun e18 => ?_)
        refine r_cond rfl (fun hc19 => ?_) (fun hc19 => ?_)
        ·
         replace hc19 := dt hc19
         have g45 := hc19
         refine r_seq (r_region' ?_)
         refine l_q (q_assign (v := .int _ _) rfl rfl) ?_
         refine l_nil ?_
         refine r_ret_ (vs := [.int _ _]) rfl Try.func10 rfl (.nil _) ⟨rfl, trivial⟩ ?_
         exact ⟨vint_eq (mf_1 (by omega) (fun ⟨h1, h2, h3⟩ => by rw [all_bad (d := rg0) hkG (okRG_f (by omega))] at h3; cases h3)).symm, Ext.of_below hB⟩
        ·
         replace hc19 := dlt hc19
         have g45 := hc19
         refine r_skip (r_inBlock (r_region' ?_))
         refine l_q (q_move (v := .int _ _) rfl rfl) ?_
         refine l_q (q_add rfl rfl (by omega) rfl) ?_
         refine l_q (q_assign (v := .int _ _) rfl rfl) ?_
         refine l_nil ?_
         exact ih8 (k + 1) _ _ ⟨⟨rfl, by first | rfl | exact vint_eq (by omega), trivial⟩, (by omega), (fun j hj => by rcases Nat.lt_succ_iff_lt_or_eq.1 hj with h | h; exact hq j h; subst h; exact okRG_t (by omega)), hb1, hsz, hB⟩ (by first | omega | (dsimp only; omega))
     ·
      replace hc9 := dlt hc9
      refine r_exit rfl ?_
      refine r_seq (r_region' ?_)
      refine l_q (q_assign (v := .int _ _) rfl rfl) ?_
      refine l_nil ?_
      refine r_ret_ (vs := [.int _ _]) rfl Try.func10 rfl (.nil _) ⟨rfl, trivial⟩ ?_
      exact ⟨vint_eq (mf_0 (by omega) ⟨by omega, by omega, all_getD (d := rg0) (fun j hj => hq j (by omega))⟩).symm, Ext.of_below hB⟩
theorem dims10_ret (fl : Int) (ga : Option Addr) (gc : Nat) (G : List RG) (xa : Option Addr) (xc : Nat) (xs : List Int) (ya : Option Addr) (yc : Nat) (ys : List Int) (w : World) (hG : Row w ga G.length gc 2 (G.flatMap RG.enc)) (hGn : G.length ≤ 2097152) (hx : Row w xa xs.length xc 1 (xs.map vint)) (hxn : xs.length ≤ 2097152) (hy : Row w ya ys.length yc 1 (ys.map vint)) (hyn : ys.length ≤ 2097152) (hyl : G.length ≤ ys.length) (hyb : ∀ y ∈ ys, 0 ≤ y ∧ y ≤ 100) : Ret Try.prog 15 [.agg ⟨[vint fl, .slice ga G.length gc]⟩, .slice xa xs.length xc, .slice ya ys.length yc] w (fun v w' => ∃ ra0 rc0, v = .slice ra0 (dimsT xs ys G.length).length rc0 ∧ w'.ownsRow w.heap.size 3 1 (.slice ra0 (dimsT xs ys G.length).length rc0) (dimsT xs ys G.length).length ((dimsT xs ys G.length).map vint) ∧ Ext w w') := by
 have hB := Below.refl w.heap.size w
 have hsz : w.heap.size ≤ w.heap.size := Nat.le_refl _
 refine ret_of_runs (args := [_, _, _]) Try.func15 rfl (Nat.le_of_ble_eq_true rfl) (by kernel_rfl) ?_
 refine r_seq (r_region' ?_)
 refine l_o (o_boxt rfl rfl rfl ?_)
 intro b1 w1 hzl1 hzr1 _ hb1 hty_b1 hE1
 have hbs_b1 : w.heap.size ≤ b1 := Nat.le_trans hsz hzl1
 replace hB := below_ext hB hE1 hsz
 replace hsz := Nat.le_trans hsz hE1.size
 refine l_q (q_assign (v := .slice _ _ _) rfl rfl) ?_
 refine l_nil (r_seq (r_region' ?_))
 refine l_q (q_assign (v := .slice _ _ _) rfl rfl) ?_
 refine l_nil (r_seq (r_region' ?_))
 refine l_q (q_assign (v := .int _ _) rfl rfl) ?_
 refine l_nil (r_seq (r_seq (r_region' ?_)))
 refine l_q (q_assign (v := .int _ _) rfl rfl) ?_
 refine l_nil (r_block ?_)
 refine r_rounds (α := Nat × (Option Addr) × Nat) (fun ⟨k, oa, oc⟩ e wl => Knows e [(1, .slice xa xs.length xc), (2, .slice ya ys.length yc), (3, ptr b1 0), (7, .slice oa ((dimsT xs ys k).length) oc), (8, vint (nowT xs ys k)), (9, vint (k : Int))] ∧ (k ≤ G.length) ∧ (wl.ownsRow w.heap.size 3 1 (.slice oa ((dimsT xs ys k).length) oc) ((dimsT xs ys k).length) ((dimsT xs ys k).map vint)) ∧ (Blk wl b1 [vint fl, .slice ga G.length gc]) ∧ (TyAt wl b1 38) ∧ (w.heap.size ≤ wl.heap.size) ∧ (Below w.heap.size w wl)) (fun ⟨k, oa, oc⟩ => G.length - k) (0, none, 0) ?_ ?_
 ·
  exact ⟨⟨rfl, rfl, rfl, rfl, rfl, rfl, trivial⟩, (Nat.zero_le _), (World.ownsRow_nil _ _ _ _), hb1, hty_b1, hsz, hB⟩
 ·
  rintro ⟨k, oa, oc⟩ el2 wl2 ⟨hkn, hkk, ho, hb1, hty_b1, hsz, hB⟩ ih2
  obtain ⟨e2, rfl⟩ := knows_env hkn
  refine r_seq (r_seq (r_region' ?_))
  refine l_q (q_move (v := .int _ _) rfl rfl) ?_
  refine l_q (q_fieldAddr (o' := 1) rfl fld38_1 rfl) ?_
  refine l_q (q_load Try.isAgg36 rfl ((hb1.has (o := 1) rfl)) rfl) ?_
  refine l_q (q_len rfl Try.underlying36 rfl rfl) ?_
  refine l_q (q_lss rfl rfl rfl) ?_
  refine l_nil ?_
  refine r_cond rfl (fun hc3 => ?_) (fun hc3 => ?_)
  ·
   replace hc3 := dt hc3
   have hkG : k < G.length := by omega
   have hsl := dimsT_len (xs := xs) (T := ys) (n := k)
   have hyk := hyb _ (getD_lt (l := ys) (d := 0) (i := k) (by omega))
   have hnb := nowT_bnd (xs := xs) (T := ys) (getD_nn (fun y hy => (hyb y hy).1)) k
   refine r_skip (r_seq (r_block (r_seq (r_seq (r_region' ?_)))))
   refine l_q (q_move (v := .slice _ _ _) rfl rfl) ?_
   refine l_q (q_move (v := .int _ _) rfl rfl) ?_
   refine l_o (o_call Try.call38 rfl (has10_ret _ _ xs (k : Int) _ (hx.below hB) (by omega)) rfl ?_)
   rintro _ w4 ⟨rfl, hE4⟩
   replace hB := below_ext hB hE4 hsz
   replace hb1 := hb1.ext hE4
   replace hty_b1 := hty_b1.ext hE4
   replace ho := own_ext ho hE4
   replace hsz := Nat.le_trans hsz hE4.size
   refine l_nil ?_
   refine r_cond rfl (fun hc5 => ?_) (fun hc5 => ?_)
   ·
    have g19 := hc5
    refine r_region' ?_
    refine l_q (q_assign (v := .int _ _) rfl rfl) ?_
    refine l_nil (r_seq (r_region' ?_))
    refine l_q (q_move (v := .int _ _) rfl rfl) ?_
    refine l_q (q_move (v := .slice _ _ _) rfl rfl) ?_
    refine l_q (q_move (v := .int _ _) rfl rfl) ?_
    obtain ⟨b6, o6, ha6, hh6⟩ := (hy.below hB).at1 k ((ys).getD k 0) (getD_some (by omega))
    refine l_q (q_indexAddr1 Try.underlying22 Try.sizeOf3 rfl ha6 rfl (by omega) rfl) ?_
    refine l_q (q_load Try.isAgg3 rfl (hh6) rfl) ?_
    refine l_q (q_sub rfl rfl (by omega) rfl) ?_
    refine l_q (q_max rfl rfl rfl) ?_
    refine l_q (q_assign (v := .int _ _) rfl rfl) ?_
    refine l_nil ?_
    refine r_forget [(1, .slice _ _ _), (2, .slice _ _ _), (3, .pointer _), (7, .slice _ _ _), (8, .int _ _), (9, .int _ _)] ⟨rfl, rfl, rfl, rfl, rfl, rfl, trivial⟩ (fun e7 => ?_)
    have hnw : max 0 (100 - ((ys).getD k 0)) = nowT xs ys (k + 1) := by rw [nowT]; first | rw [if_pos g19] | rw [if_neg (by rw [g19]; decide)]
    refine r_forget [(1, .slice _ _ _), (2, .slice _ _ _), (3, .pointer _), (7, .slice _ _ _), (8, vint (nowT xs ys (k + 1))), (9, .int _ _)] ⟨rfl, rfl, rfl, rfl, vint_eq hnw, rfl, trivial⟩ (fun e8 => ?_)
    replace hnw : nowT xs ys (k + 1) = nowT xs ys (k + 1) := rfl
    refine r_region' ?_
    refine l_q (q_move (v := .slice _ _ _) rfl rfl) ?_
    refine l_q (q_move (v := .int _ _) rfl rfl) ?_
    refine l_o (o_buildSlice (el := 3) (cs := [vint (nowT xs ys (k + 1))]) Try.underlying22 el3 (by decide) (by kernel_rfl) rfl (by decide) rfl ?_)
    intro b9 w9 hzl9 hzr9 _ hb9 hE9 ho9
    have hne_b1_b9 : b1 ≠ b9 := by have := hb1.lt; omega
    have hbs_b9 : w.heap.size ≤ b9 := Nat.le_trans hsz hzl9
    replace hB := below_ext hB hE9 hsz
    replace hb1 := hb1.ext hE9
    replace hty_b1 := hty_b1.ext hE9
    replace ho := own_ext ho hE9
    replace hsz := Nat.le_trans hsz hE9.size
    refine l_o (o_append_map (f := vint) (dimsT xs ys k) ([nowT xs ys (k + 1)]) Try.underlying22 el3 rfl rfl ho rfl (Row.of_owns ho9) (fun _ => rfl) (by (try simp only [List.length_append, List.length_cons, List.length_nil, List.length_take, List.length_drop, List.length_replicate]); omega) (by omega) rfl ?_)
    intro a10 c10 w10 hz10 ho10 hG10
    replace hB := below_own hB hG10 ho (by omega) hsz
    replace hsz := Nat.le_trans hsz hG10.size
    replace hb1 := hb1.step hG10 (own_ty_ne ho hty_b1 (by decide))
    replace hty_b1 := TyAt.own hty_b1 ho hG10 (by decide)
    refine l_q (q_assign (v := .slice _ _ _) rfl rfl) ?_
    refine l_nil (r_inBlock (r_region' ?_))
    refine l_q (q_move (v := .int _ _) rfl rfl) ?_
    refine l_q (q_add rfl rfl (by omega) rfl) ?_
    refine l_q (q_assign (v := .int _ _) rfl rfl) ?_
    refine l_nil ?_
    have hst := dimsT_step (xs := xs) (T := ys) (n := k)
    exact ih2 (k + 1, a10, c10) _ _ ⟨⟨rfl, rfl, rfl, (congrArg (fun z => Value.slice _ (List.length z) _) hst), (vint_eq hnw), (vint_eq (by omega)), trivial⟩, (by omega), (hst ▸ ho10), hb1, hty_b1, hsz, hB⟩ (by first | omega | (dsimp only; omega))
   ·
    have g19 := hc5
    refine r_skip (r_seq (r_region' ?_))
    refine l_q (q_move (v := .int _ _) rfl rfl) ?_
    refine l_q (q_move (v := .slice _ _ _) rfl rfl) ?_
    refine l_q (q_move (v := .int _ _) rfl rfl) ?_
    obtain ⟨b11, o11, ha11, hh11⟩ := (hy.below hB).at1 k ((ys).getD k 0) (getD_some (by omega))
    refine l_q (q_indexAddr1 Try.underlying22 Try.sizeOf3 rfl ha11 rfl (by omega) rfl) ?_
    refine l_q (q_load Try.isAgg3 rfl (hh11) rfl) ?_
    refine l_q (q_sub rfl rfl (by omega) rfl) ?_
    refine l_q (q_max rfl rfl rfl) ?_
    refine l_q (q_assign (v := .int _ _) rfl rfl) ?_
    refine l_nil ?_
    refine r_forget [(1, .slice _ _ _), (2, .slice _ _ _), (3, .pointer _), (7, .slice _ _ _), (8, .int _ _), (9, .int _ _)] ⟨rfl, rfl, rfl, rfl, rfl, rfl, trivial⟩ (fun e12 => ?_)
    have hnw : max 0 ((nowT xs ys k) - ((ys).getD k 0)) = nowT xs ys (k + 1) := by rw [nowT]; first | rw [if_pos g19] | rw [if_neg (by rw [g19]; decide)]
    refine r_forget [(1, .slice _ _ _), (2, .slice _ _ _), (3, .pointer _), (7, .slice _ _ _), (8, vint (nowT xs ys (k + 1))), (9, .int _ _)] ⟨rfl, rfl, rfl, rfl, vint_eq hnw, rfl, trivial⟩ (fun e13 => ?_)
    replace hnw : nowT xs ys (k + 1) = nowT xs ys (k + 1) := rfl
    refine r_region' ?_
    refine l_q (q_move (v := .slice _ _ _) rfl rfl) ?_
    refine l_q (q_move (v := .int _ _) rfl rfl) ?_
    refine l_o (o_buildSlice (el := 3) (cs := [vint (nowT xs ys (k + 1))]) Try.underlying22 el3 (by decide) (by kernel_rfl) rfl (by decide) rfl ?_)
    intro b14 w14 hzl14 hzr14 _ hb14 hE14 ho14
    have hne_b1_b14 : b1 ≠ b14 := by have := hb1.lt; omega
    have hbs_b14 : w.heap.size ≤ b14 := Nat.le_trans hsz hzl14
    replace hB := below_ext hB hE14 hsz
    replace hb1 := hb1.ext hE14
    replace hty_b1 := hty_b1.ext hE14
    replace ho := own_ext ho hE14
    replace hsz := Nat.le_trans hsz hE14.size
    refine l_o (o_append_map (f := vint) (dimsT xs ys k) ([nowT xs ys (k + 1)]) Try.underlying22 el3 rfl rfl ho rfl (Row.of_owns ho14) (fun _ => rfl) (by (try simp only [List.length_append, List.length_cons, List.length_nil, List.length_take, List.length_drop, List.length_replicate]); omega) (by omega) rfl ?_)
    intro a15 c15 w15 hz15 ho15 hG15
    replace hB := below_own hB hG15 ho (by omega) hsz
    replace hsz := Nat.le_trans hsz hG15.size
    replace hb1 := hb1.step hG15 (own_ty_ne ho hty_b1 (by decide))
    replace hty_b1 := TyAt.own hty_b1 ho hG15 (by decide)
    refine l_q (q_assign (v := .slice _ _ _) rfl rfl) ?_
    refine l_nil (r_inBlock (r_region' ?_))
    refine l_q (q_move (v := .int _ _) rfl rfl) ?_
    refine l_q (q_add rfl rfl (by omega) rfl) ?_
    refine l_q (q_assign (v := .int _ _) rfl rfl) ?_
    refine l_nil ?_
    have hst := dimsT_step (xs := xs) (T := ys) (n := k)
    exact ih2 (k + 1, a15, c15) _ _ ⟨⟨rfl, rfl, rfl, (congrArg (fun z => Value.slice _ (List.length z) _) hst), (vint_eq hnw), (vint_eq (by omega)), trivial⟩, (by omega), (hst ▸ ho15), hb1, hty_b1, hsz, hB⟩ (by first | omega | (dsimp only; omega))
  ·
   replace hc3 := dlt hc3
   refine r_exit rfl ?_
   refine r_seq (r_region' ?_)
   refine l_q (q_move (v := .slice _ _ _) rfl rfl) ?_
   refine l_q (q_assign (v := .slice _ _ _) rfl rfl) ?_
   refine l_nil ?_
   refine r_forget [(6, .slice _ _ _)] ⟨rfl, trivial⟩ (fun e16 => ?_)
   refine r_ret_ (vs := [.slice _ _ _]) rfl Try.func15 rfl (.nil _) ⟨rfl, trivial⟩ ?_
   have hkk : k = G.length := by omega
   subst hkk
   exact ⟨_, _, rfl, ho, Ext.of_below hB⟩
theorem ends10_ret (fl : Int) (ga : Option Addr) (gc : Nat) (G : List RG) (hi : Bool) (w : World) (hG : Row w ga G.length gc 2 (G.flatMap RG.enc)) (hGn : G.length ≤ 2097152) : Ret Try.prog 17 [.agg ⟨[vint fl, .slice ga G.length gc]⟩, .bool hi] w (fun v w' => ∃ ra0 rc0, v = .slice ra0 (G.map (pkB hi)).length rc0 ∧ w'.ownsRow w.heap.size 3 1 (.slice ra0 (G.map (pkB hi)).length rc0) (G.map (pkB hi)).length ((G.map (pkB hi)).map vint) ∧ Ext w w') := by
 have hB := Below.refl w.heap.size w
 have hsz : w.heap.size ≤ w.heap.size := Nat.le_refl _
 refine ret_of_runs (args := [_, _]) Try.func17 rfl (Nat.le_of_ble_eq_true rfl) (by kernel_rfl) ?_
 refine r_seq (r_region' ?_)
 refine l_o (o_boxt rfl rfl rfl ?_)
 intro b1 w1 hzl1 hzr1 _ hb1 hty_b1 hE1
 have hbs_b1 : w.heap.size ≤ b1 := Nat.le_trans hsz hzl1
 replace hB := below_ext hB hE1 hsz
 replace hsz := Nat.le_trans hsz hE1.size
 refine l_q (q_assign (v := .slice _ _ _) rfl rfl) ?_
 refine l_nil (r_seq (r_region' ?_))
 refine l_q (q_assign (v := .slice _ _ _) rfl rfl) ?_
 refine l_nil (r_seq (r_seq (r_region' ?_)))
 refine l_q (q_assign (v := .int _ _) rfl rfl) ?_
 refine l_nil (r_block ?_)
 refine r_rounds (α := Nat × (Option Addr) × Nat) (fun ⟨k, oa, oc⟩ e wl => Knows e [(1, .bool hi), (2, ptr b1 0), (5, .slice oa (((G.take k).map (pkB hi)).length) oc), (6, vint (k : Int))] ∧ (k ≤ G.length) ∧ (wl.ownsRow w.heap.size 3 1 (.slice oa (((G.take k).map (pkB hi)).length) oc) (((G.take k).map (pkB hi)).length) (((G.take k).map (pkB hi)).map vint)) ∧ (Blk wl b1 [vint fl, .slice ga G.length gc]) ∧ (TyAt wl b1 38) ∧ (w.heap.size ≤ wl.heap.size) ∧ (Below w.heap.size w wl)) (fun ⟨k, oa, oc⟩ => G.length - k) (0, none, 0) ?_ ?_
 ·
  exact ⟨⟨rfl, rfl, rfl, rfl, trivial⟩, (Nat.zero_le _), (World.ownsRow_nil _ _ _ _), hb1, hty_b1, hsz, hB⟩
 ·
  rintro ⟨k, oa, oc⟩ el2 wl2 ⟨hkn, hkk, ho, hb1, hty_b1, hsz, hB⟩ ih2
  obtain ⟨e2, rfl⟩ := knows_env hkn
  refine r_seq (r_seq (r_region' ?_))
  refine l_q (q_move (v := .int _ _) rfl rfl) ?_
  refine l_q (q_fieldAddr (o' := 1) rfl fld38_1 rfl) ?_
  refine l_q (q_load Try.isAgg36 rfl ((hb1.has (o := 1) rfl)) rfl) ?_
  refine l_q (q_len rfl Try.underlying36 rfl rfl) ?_
  refine l_q (q_lss rfl rfl rfl) ?_
  refine l_nil ?_
  refine r_cond rfl (fun hc3 => ?_) (fun hc3 => ?_)
  ·
   replace hc3 := dt hc3
   have hkG : k < G.length := by omega
   refine r_skip (r_seq (r_block (r_seq (r_region' ?_))))
   refine l_q (q_fieldAddr (o' := 1) rfl fld38_1 rfl) ?_
   refine l_q (q_load Try.isAgg36 rfl ((hb1.has (o := 1) rfl)) rfl) ?_
   refine l_q (q_move (v := .int _ _) rfl rfl) ?_
   obtain ⟨b4, o4, ha4, hh4⟩ := (hG.below hB).at (by decide) k (by omega)
   refine l_q (q_indexAddr Try.underlying36 Try.sizeOf78 rfl ha4 rfl (by omega) rfl) ?_
   refine l_q (q_fieldAddr (o' := 0) rfl fld78_0 rfl) ?_
   refine l_q (q_load Try.isAgg3 rfl (((cells_cast (wide_at RG.len rg0 _ _ (by omega)) hh4) 0 _ rfl)) rfl) ?_
   refine l_q (q_assign (v := .int _ _) rfl rfl) ?_
   refine l_nil ?_
   refine r_forget [(1, .bool _), (2, .pointer _), (5, .slice _ _ _), (6, .int _ _), (7, .int _ _)] ⟨rfl, rfl, rfl, rfl, rfl, trivial⟩ (fun e5 => ?_)
   refine r_seq (r_seq (r_region' ?_))
   refine l_q (q_move (v := .bool _) rfl rfl) ?_
   refine l_nil ?_
   refine r_cond rfl (fun hc6 => ?_) (fun hc6 => ?_)
   ·
    have g21 := hc6
    refine r_region' ?_
    refine l_q (q_fieldAddr (o' := 1) rfl fld38_1 rfl) ?_
    refine l_q (q_load Try.isAgg36 rfl ((hb1.has (o := 1) rfl)) rfl) ?_
    refine l_q (q_move (v := .int _ _) rfl rfl) ?_
    obtain ⟨b7, o7, ha7, hh7⟩ := (hG.below hB).at (by decide) k (by omega)
    refine l_q (q_indexAddr Try.underlying36 Try.sizeOf78 rfl ha7 rfl (by omega) rfl) ?_
    refine l_q (q_fieldAddr (o' := 1) rfl fld78_1 rfl) ?_
    refine l_q (q_load Try.isAgg3 rfl (((cells_cast (wide_at RG.len rg0 _ _ (by omega)) hh7) 1 _ rfl)) rfl) ?_
    refine l_q (q_assign (v := .int _ _) rfl rfl) ?_
    refine l_nil ?_
    refine r_forget [(1, .bool _), (2, .pointer _), (5, .slice _ _ _), (6, .int _ _), (7, vint (pkB hi (G.getD k rg0))), (21, .bool _), (22, .pointer _), (23, .slice _ _ _), (24, .int _ _), (25, .pointer _), (26, .pointer _), (27, .int _ _)] ⟨rfl, rfl, rfl, rfl, vint_eq (by unfold pkB; first | rw [if_pos g21] | rw [if_neg (by rw [g21]; decide)]), rfl, rfl, rfl, rfl, rfl, rfl, rfl, trivial⟩ (fun e8 => ?_)
    refine r_region' ?_
    refine l_q (q_move (v := .slice _ _ _) rfl rfl) ?_
    refine l_q (q_move (v := .int _ _) rfl rfl) ?_
    refine l_o (o_buildSlice (el := 3) (cs := [vint (pkB hi (G.getD k rg0))]) Try.underlying22 el3 (by decide) (by kernel_rfl) rfl (by decide) rfl ?_)
    intro b9 w9 hzl9 hzr9 _ hb9 hE9 ho9
    have hne_b1_b9 : b1 ≠ b9 := by have := hb1.lt; omega
    have hbs_b9 : w.heap.size ≤ b9 := Nat.le_trans hsz hzl9
    replace hB := below_ext hB hE9 hsz
    replace hb1 := hb1.ext hE9
    replace hty_b1 := hty_b1.ext hE9
    replace ho := own_ext ho hE9
    replace hsz := Nat.le_trans hsz hE9.size
    refine l_o (o_append_map (f := vint) ((G.take k).map (pkB hi)) ([pkB hi (G.getD k rg0)]) Try.underlying22 el3 rfl rfl ho rfl (Row.of_owns ho9) (fun _ => rfl) (by simp only [List.length_append, List.length_map, List.length_take, List.length_cons, List.length_nil]; omega) (by omega) rfl ?_)
    intro a10 c10 w10 hz10 ho10 hG10
    replace hB := below_own hB hG10 ho (by omega) hsz
    replace hsz := Nat.le_trans hsz hG10.size
    replace hb1 := hb1.step hG10 (own_ty_ne ho hty_b1 (by decide))
    replace hty_b1 := TyAt.own hty_b1 ho hG10 (by decide)
    refine l_q (q_assign (v := .slice _ _ _) rfl rfl) ?_
    refine l_nil ?_
    refine r_forget [(1, .bool _), (2, .pointer _), (5, .slice _ _ _), (6, .int _ _)] ⟨rfl, rfl, rfl, rfl, trivial⟩ (fun e11 => ?_)
    refine r_inBlock (r_region' ?_)
    refine l_q (q_move (v := .int _ _) rfl rfl) ?_
    refine l_q (q_add rfl rfl (by omega) rfl) ?_
    refine l_q (q_assign (v := .int _ _) rfl rfl) ?_
    refine l_nil ?_
    have hst := ends_step (hi := hi) hkG
    exact ih2 (k + 1, a10, c10) _ _ ⟨⟨rfl, rfl, (congrArg (fun z => Value.slice _ (List.length z) _) hst), by first | rfl | exact vint_eq (by omega), trivial⟩, (by omega), (hst ▸ ho10), hb1, hty_b1, hsz, hB⟩ (by first | omega | (dsimp only; omega))
   ·
    have g21 := hc6
    refine r_skip ?_
    refine r_forget [(1, .bool _), (2, .pointer _), (5, .slice _ _ _), (6, .int _ _), (7, vint (pkB hi (G.getD k rg0))), (21, .bool _)] ⟨rfl, rfl, rfl, rfl, vint_eq (by unfold pkB; first | rw [if_pos g21] | rw [if_neg (by rw [g21]; decide)]), rfl, trivial⟩ (fun e12 => ?_)
    refine r_region' ?_
    refine l_q (q_move (v := .slice _ _ _) rfl rfl) ?_
    refine l_q (q_move (v := .int _ _) rfl rfl) ?_
    refine l_o (o_buildSlice (el := 3) (cs := [vint (pkB hi (G.getD k rg0))]) Try.underlying22 el3 (by decide) (by kernel_rfl) rfl (by decide) rfl ?_)
    intro b13 w13 hzl13 hzr13 _ hb13 hE13 ho13
    have hne_b1_b13 : b1 ≠ b13 := by have := hb1.lt; omega
    have hbs_b13 : w.heap.size ≤ b13 := Nat.le_trans hsz hzl13
    replace hB := below_ext hB hE13 hsz
    replace hb1 := hb1.ext hE13
    replace hty_b1 := hty_b1.ext hE13
    replace ho := own_ext ho hE13
    replace hsz := Nat.le_trans hsz hE13.size
    refine l_o (o_append_map (f := vint) ((G.take k).map (pkB hi)) ([pkB hi (G.getD k rg0)]) Try.underlying22 el3 rfl rfl ho rfl (Row.of_owns ho13) (fun _ => rfl) (by simp only [List.length_append, List.length_map, List.length_take, List.length_cons, List.length_nil]; omega) (by omega) rfl ?_)
    intro a14 c14 w14 hz14 ho14 hG14
    replace hB := below_own hB hG14 ho (by omega) hsz
    replace hsz := Nat.le_trans hsz hG14.size
    replace hb1 := hb1.step hG14 (own_ty_ne ho hty_b1 (by decide))
    replace hty_b1 := TyAt.own hty_b1 ho hG14 (by decide)
    refine l_q (q_assign (v := .slice _ _ _) rfl rfl) ?_
    refine l_nil (r_inBlock (r_region' ?_))
    refine l_q (q_move (v := .int _ _) rfl rfl) ?_
    refine l_q (q_add rfl rfl (by omega) rfl) ?_
    refine l_q (q_assign (v := .int _ _) rfl rfl) ?_
    refine l_nil ?_
    have hst := ends_step (hi := hi) hkG
    exact ih2 (k + 1, a14, c14) _ _ ⟨⟨rfl, rfl, (congrArg (fun z => Value.slice _ (List.length z) _) hst), by first | rfl | exact vint_eq (by omega), trivial⟩, (by omega), (hst ▸ ho14), hb1, hty_b1, hsz, hB⟩ (by first | omega | (dsimp only; omega))
  ·
   replace hc3 := dlt hc3
   refine r_exit rfl ?_
   refine r_seq (r_region' ?_)
   refine l_q (q_move (v := .slice _ _ _) rfl rfl) ?_
   refine l_q (q_assign (v := .slice _ _ _) rfl rfl) ?_
   refine l_nil ?_
   refine r_forget [(4, .slice _ _ _)] ⟨rfl, trivial⟩ (fun e15 => ?_)
   refine r_ret_ (vs := [.slice _ _ _]) rfl Try.func17 rfl (.nil _) ⟨rfl, trivial⟩ ?_
   have hkk : k = G.length := by omega
   subst hkk
   rw [List.take_length] at ho
   exact ⟨_, _, (by rw [List.take_length]; rfl), ho, Ext.of_below hB⟩
end Go.Proofs.Ytgdanglidienmaa
