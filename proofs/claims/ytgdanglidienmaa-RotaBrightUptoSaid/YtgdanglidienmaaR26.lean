/- Contracts. -/
import Derived.Test.YtgdanglidienmaaR22
import Derived.Test.YtgdanglidienmaaRK
set_option linter.unusedVariables false
set_option linter.unusedSimpArgs false
namespace Go.Proofs.Ytgdanglidienmaa
open Go Go.RowKit Go.Gv Go.Fl

section
variable {P : Program} {ops : Array Oper} {e : Env} {w : World} {d : Option Nat} {ty : TypeId} {pos : String} {af : Array Edge} {g : Option (Nat × Bool)}
theorem q_or {t yt : TypeId} {x y : Operand} {i j : Int} {a b : Nat} (hx : ev e x = vint i) (hy : ev e y = vint j) (hi : i = (a : Int)) (hj : j = (b : Int)) (ha : a < 2 ^ 62) (hb : b < 2 ^ 62)
    (hw : wantedE ops e ⟨d, .binOp .or t x y yt, ty, pos, af, g⟩ = true) : QuietAt P ops e w ⟨d, .binOp .or t x y yt, ty, pos, af, g⟩ (vint ((a ||| b : Nat) : Int)) :=
  .inl ⟨hw, rfl, (by
    subst hi hj
    have h1 : a ||| b < 2 ^ 62 := Nat.or_lt_two_pow ha hb
    have h2 : (BitVec.ofInt 64 (a : Int) ||| BitVec.ofInt 64 (b : Int)).toNat = a ||| b := by
      rw [BitVec.toNat_or, BitVec.ofInt_natCast, BitVec.ofInt_natCast, BitVec.toNat_ofNat, BitVec.toNat_ofNat, Nat.mod_eq_of_lt (by omega), Nat.mod_eq_of_lt (by omega)]
    have h3 : IntKind.i64.wrap ((a ||| b : Nat) : Int) = ((a ||| b : Nat) : Int) := wrap_in (by omega)
    have h4 : (Op.intBits .or .i64 (a : Int) (b : Int)).run P w = .ok (vint ((a ||| b : Nat) : Int)) w := by
      show (pure (.int .i64 (IntKind.i64.wrap ((BitVec.ofInt 64 (a : Int) ||| BitVec.ofInt 64 (b : Int)).toNat : Int))) : Sem Value).run P w = _
      rw [h2, h3]; rfl
    simp [execOp, hx, hy, eqGuard, binOp, h4])⟩
end
theorem bitB_or {a b k : Nat} : bitB (a ||| b) k = (bitB a k || bitB b k) := by
  unfold bitB
  rw [← Nat.testBit_eq_decide_div_mod_eq, ← Nat.testBit_eq_decide_div_mod_eq, ← Nat.testBit_eq_decide_div_mod_eq, Nat.testBit_or]
theorem bits_or {a b n : Nat} (ha : a < 2 ^ n) (hb : b < 2 ^ n) (hn : n ≤ 20) : ∀ i ∈ bitsL a, i ∈ bitsL (a ||| b) := fun i hi => by
  have h20 : 2 ^ n ≤ 2 ^ 20 := Nat.pow_le_pow_right (by decide) hn
  obtain ⟨j, rfl, hj⟩ := (bits_mem (by omega)).1 hi
  exact (bits_mem (Nat.or_lt_two_pow (by omega) (by omega))).2 ⟨j, rfl, by rw [bitB_or, hj]; rfl⟩
/-- a truth of a mirror's first k watches -/
def Tru (G : List RG) (k : Nat) (T : List Int) : Prop := T.length = k ∧ ∀ j, j < k → (G.getD j rg0).lo ≤ T.getD j 0 ∧ T.getD j 0 ≤ (G.getD j rg0).hi
theorem tru_nil {G : List RG} : Tru G 0 [] := ⟨rfl, fun j hj => absurd hj (Nat.not_lt_zero _)⟩
theorem rg_ok {G : List RG} {k : Nat} (h : ∀ x ∈ G, okRG x = true) (hk : k < G.length) : 0 ≤ (G.getD k rg0).lo ∧ (G.getD k rg0).lo ≤ (G.getD k rg0).hi ∧ (G.getD k rg0).hi ≤ 100 := by
  have h1 := h _ (getD_lt (d := rg0) hk)
  unfold okRG at h1
  rw [Bool.and_eq_true, Bool.and_eq_true, decide_eq_true_eq, decide_eq_true_eq, decide_eq_true_eq] at h1
  exact h1
theorem tru_in {lo hi x : Int} (h1 : lo ≤ hi) : lo ≤ lo + x % (hi - lo + 1) ∧ lo + x % (hi - lo + 1) ≤ hi := by
  have h2 := Int.emod_nonneg x (show hi - lo + 1 ≠ 0 by omega)
  have h3 := Int.emod_lt_of_pos x (show 0 < hi - lo + 1 by omega)
  omega
theorem tru_rng {lo hi x : Int} (h0 : 0 ≤ lo) (h1 : lo ≤ hi) (h2 : hi ≤ 100) : -9223372036854775808 ≤ lo + x % (hi - lo + 1) ∧ lo + x % (hi - lo + 1) ≤ 9223372036854775807 := by
  have := tru_in (x := x) h1
  omega
theorem gapp_lt {ys : List Int} {v : Int} {j : Nat} (h : j < ys.length) : (ys ++ [v]).getD j 0 = ys.getD j 0 := by rw [List.getD_eq_getElem?_getD, List.getElem?_append_left h, ← List.getD_eq_getElem?_getD]
theorem gapp_eq {ys : List Int} {v : Int} {j : Nat} (h : ys.length = j) : (ys ++ [v]).getD j 0 = v := by rw [List.getD_eq_getElem?_getD, List.getElem?_append_right (by omega), h, Nat.sub_self]; rfl
theorem tru_snoc {G : List RG} {k : Nat} {ys : List Int} {x : Int} (h : Tru G k ys) (h1 : (G.getD k rg0).lo ≤ (G.getD k rg0).hi) : Tru G (k + 1) (ys ++ [(G.getD k rg0).lo + x % ((G.getD k rg0).hi - (G.getD k rg0).lo + 1)]) := by
  refine ⟨by rw [List.length_append, h.1]; rfl, fun j hj => ?_⟩
  rcases Nat.lt_succ_iff_lt_or_eq.1 hj with h2 | rfl
  · rw [gapp_lt (by rw [h.1]; exact h2)]; exact h.2 j h2
  · rw [gapp_eq h.1]; exact tru_in h1


theorem wordm_ret (wa : Option Addr) (wc : Nat) (ws : List Int) (at_ : Int) (w : World) (hw : Row w wa ws.length wc 1 (ws.map (Value.int .u16))) (hwn : ws.length ≤ 2097152) (hwr : ∀ x ∈ ws, 0 ≤ x ∧ x ≤ 65535) (hat : 0 ≤ at_) : Ret Try.prog 39 [.slice wa ws.length wc, vint at_] w (fun v w' => ∃ x : Int, v = vint x ∧ 0 ≤ x ∧ x ≤ 65535 ∧ Ext w w') := by
 have hB := Below.refl w.heap.size w
 have hsz : w.heap.size ≤ w.heap.size := Nat.le_refl _
 refine ret_of_runs (args := [_, _]) Try.func39 rfl (Nat.le_of_ble_eq_true rfl) (by kernel_rfl) ?_
 refine r_seq (r_region' ?_)
 refine l_q (q_assign (v := .int _ _) rfl rfl) ?_
 refine l_nil (r_seq (r_seq (r_region' ?_)))
 refine l_q (q_move (v := .slice _ _ _) rfl rfl) ?_
 refine l_q (q_len rfl Try.underlying39 rfl rfl) ?_
 refine l_q (q_eql rfl rfl rfl) ?_
 refine l_nil ?_
 refine r_cond rfl (fun hc1 => ?_) (fun hc1 => ?_)
 ·
  replace hc1 := dt hc1
  refine r_seq (r_region' ?_)
  refine l_q (q_assign (v := .int _ _) rfl rfl) ?_
  refine l_nil ?_
  refine r_ret_ (vs := [.int _ _]) rfl Try.func39 rfl (.nil _) ⟨rfl, trivial⟩ ?_
  exact ⟨0, rfl, by decide, by decide, Ext.of_below hB⟩
 ·
  replace hc1 := df hc1
  refine r_skip (r_seq ?_)
  have ha1 := Int.emod_nonneg at_ (show (ws.length : Int) ≠ 0 by omega)
  have ha2 := Int.emod_lt_of_pos at_ (show (0 : Int) < ws.length by omega)
  have hwx := hwr _ (getD_lt (l := ws) (d := 0) (i := (at_ % (ws.length : Int)).toNat) (by omega))
  refine r_region' ?_
  refine l_q (q_move (v := .slice _ _ _) rfl rfl) ?_
  refine l_q (q_move (v := .int _ _) rfl rfl) ?_
  refine l_q (q_move (v := .slice _ _ _) rfl rfl) ?_
  refine l_q (q_len rfl Try.underlying39 rfl rfl) ?_
  refine l_q (q_rem rfl rfl (by omega) rfl) ?_
  obtain ⟨b2, o2, ha2, hh2⟩ := (hw.below hB).at1 (at_ % (ws.length : Int)).toNat ((ws).getD (at_ % (ws.length : Int)).toNat 0) (getD_some (by omega))
  refine l_q (q_indexAddr1 Try.underlying39 Try.sizeOf120 rfl ha2 rfl (by omega) rfl) ?_
  refine l_q (q_load Try.isAgg120 rfl (hh2) rfl) ?_
  refine l_q (q_toInt Try.underlying120 Try.underlying3 rfl (by omega) rfl) ?_
  refine l_q (q_assign (v := .int _ _) rfl rfl) ?_
  refine l_nil ?_
  refine r_forget [(4, .int _ _)] ⟨rfl, trivial⟩ (fun e3 => ?_)
  refine r_ret_ (vs := [.int _ _]) rfl Try.func39 rfl (.nil _) ⟨rfl, trivial⟩ ?_
  exact ⟨_, rfl, hwx.1, hwx.2, Ext.of_below hB⟩
theorem truly_ret (fl : Int) (ga : Option Addr) (gc : Nat) (G : List RG) (wa : Option Addr) (wc : Nat) (ws : List Int) (w : World) (hG : Row w ga G.length gc 2 (G.flatMap RG.enc)) (hGn : G.length ≤ 2097152) (hwd : Row w wa ws.length wc 1 (ws.map (Value.int .u16))) (hwn : ws.length ≤ 2097152) (hwr : ∀ x ∈ ws, 0 ≤ x ∧ x ≤ 65535) (hrg : ∀ x ∈ G, okRG x = true) : Ret Try.prog 16 [.agg ⟨[vint fl, .slice ga G.length gc]⟩, .slice wa ws.length wc] w (fun v w' => ∃ oa oc T, v = .slice oa (List.length T) oc ∧ w'.ownsRow w.heap.size 3 1 (.slice oa (List.length T) oc) (List.length T) (T.map vint) ∧ Tru G G.length T ∧ Ext w w') := by
 have hB := Below.refl w.heap.size w
 have hsz : w.heap.size ≤ w.heap.size := Nat.le_refl _
 refine ret_of_runs (args := [_, _]) Try.func16 rfl (Nat.le_of_ble_eq_true rfl) (by kernel_rfl) ?_
 refine r_seq (r_region' ?_)
 refine l_o (o_boxt rfl rfl rfl ?_)
 intro b1 w1 hzl1 hzr1 _ hb1 hty_b1 hE1
 have hbs_b1 : w.heap.size ≤ b1 := Nat.le_trans hsz hzl1
 replace hB := below_ext hB hE1 hsz
 replace hsz := Nat.le_trans hsz hE1.size
 refine l_q (q_assign (v := .slice _ _ _) rfl rfl) ?_
 refine l_nil (r_seq (r_region' ?_))
 refine l_q (q_assign (v := .slice _ _ _) rfl rfl) ?_
 refine l_nil (r_seq (r_seq (r_region' ?_)))
 refine l_q (q_assign (v := .int _ _) rfl rfl) ?_
 refine l_nil (r_block ?_)
 refine r_rounds (α := Nat × (Option Addr) × Nat × (List Int)) (fun ⟨k, oa, oc, ys⟩ e wl => Knows e [(1, .slice wa ws.length wc), (2, ptr b1 0), (5, .slice oa ((ys).length) oc), (6, vint (k : Int))] ∧ (k ≤ G.length) ∧ (Tru G k ys) ∧ (wl.ownsRow w.heap.size 3 1 (.slice oa ((ys).length) oc) ((ys).length) ((ys).map vint)) ∧ (Blk wl b1 [vint fl, .slice ga G.length gc]) ∧ (TyAt wl b1 38) ∧ (w.heap.size ≤ wl.heap.size) ∧ (Below w.heap.size w wl)) (fun ⟨k, oa, oc, ys⟩ => G.length - k) (0, none, 0, []) ?_ ?_
 ·
  exact ⟨⟨rfl, rfl, rfl, rfl, trivial⟩, (Nat.zero_le _), tru_nil, (World.ownsRow_nil _ _ _ _), hb1, hty_b1, hsz, hB⟩
 ·
  rintro ⟨k, oa, oc, ys⟩ el2 wl2 ⟨hkn, hk, hy, ho, hb1, hty_b1, hsz, hB⟩ ih2
  obtain ⟨e2, rfl⟩ := knows_env hkn
  have hyl := hy.1
  refine r_seq (r_seq (r_region' ?_))
  refine l_q (q_move (v := .int _ _) rfl rfl) ?_
  refine l_q (q_fieldAddr (o' := 1) rfl fld38_1 rfl) ?_
  refine l_q (q_load Try.isAgg36 rfl ((hb1.has (o := 1) rfl)) rfl) ?_
  refine l_q (q_len rfl Try.underlying36 rfl rfl) ?_
  refine l_q (q_lss rfl rfl rfl) ?_
  refine l_nil ?_
  refine r_cond rfl (fun hc3 => ?_) (fun hc3 => ?_)
  ·
   replace hc3 := dt hc3
   have hkG : k < G.length := by omega
   obtain ⟨hr0, hr1, hr2⟩ := rg_ok hrg hkG
   refine r_skip (r_seq (r_block (r_seq (r_region' ?_))))
   refine l_q (q_fieldAddr (o' := 1) rfl fld38_1 rfl) ?_
   refine l_q (q_load Try.isAgg36 rfl ((hb1.has (o := 1) rfl)) rfl) ?_
   refine l_q (q_move (v := .int _ _) rfl rfl) ?_
   obtain ⟨b4, o4, ha4, hh4⟩ := (hG.below hB).at (by decide) k (by omega)
   refine l_q (q_indexAddr Try.underlying36 Try.sizeOf78 rfl ha4 rfl (by omega) rfl) ?_
   refine l_q (q_load_agg (cs := [vint (((G).getD k rg0).lo), vint (((G).getD k rg0).hi)]) (n := 2) Try.isAgg78 Try.sizeOf78 rfl ((cells_cast (wide_at RG.len rg0 _ _ (by omega)) hh4)) rfl rfl) ?_
   refine l_o (o_alloct Try.zeroValue78 rfl rfl ?_)
   intro b5 w5 hzl5 hzr5 _ hb5 hty_b5 hE5
   have hne_b1_b5 : b1 ≠ b5 := by have := hb1.lt; omega
   have hbs_b5 : w.heap.size ≤ b5 := Nat.le_trans hsz hzl5
   replace hB := below_ext hB hE5 hsz
   replace hb1 := hb1.ext hE5
   replace hty_b1 := hty_b1.ext hE5
   replace ho := own_ext ho hE5
   replace hsz := Nat.le_trans hsz hE5.size
   refine l_o (o_storet (vs := [vint (((G).getD k rg0).lo), vint (((G).getD k rg0).hi)]) (cs' := [vint (((G).getD k rg0).lo), vint (((G).getD k rg0).hi)]) Try.sizeOf78 rfl rfl rfl rfl hb5 (Nat.le_of_ble_eq_true rfl) rfl rfl ?_)
   intro w6 hz6 hb5 hT6 hG6
   replace hB := below_upd hB hG6 hsz (by omega)
   replace hsz : w.heap.size ≤ w6.heap.size := by rw [hz6]; exact hsz
   replace hb1 := hb1.upd hG6 (by omega)
   replace hty_b1 := hty_b1.upd hG6 (by omega)
   replace ho := own_ty_upd ho hty_b5 hG6 (by decide)
   refine l_nil ?_
   refine r_forget [(1, .slice _ _ _), (2, .pointer _), (5, .slice _ _ _), (6, .int _ _), (7, .pointer _)] ⟨rfl, rfl, rfl, rfl, rfl, trivial⟩ (fun e7 => ?_)
   refine r_draw3 ext_refl' ext_trans' (.op 0 (.op 1 (.op 2 (.op 3 (.op 4 (.op 6 (.op 7 (.op 8 (.op 9 (.op 10 (.op 11 (.op 5 (.op 12 (.op 13 (.op 14 (.op 15 (.op 16 (.done)))))))))))))))))) [5, 14, 15, 1015] 40 (by kernel_rfl) (by kernel_rfl) ?_
   intro w8 _ hE8
   replace hB := below_ext hB hE8 hsz
   replace hb1 := hb1.ext hE8
   replace hty_b1 := hty_b1.ext hE8
   replace ho := own_ext ho hE8
   replace hb5 := hb5.ext hE8
   replace hsz := Nat.le_trans hsz hE8.size
   refine m_q3 rfl rfl (fun w' hC' => q_move (v := .slice _ _ _) rfl rfl) ?_
   refine m_q3 rfl rfl (fun w' hC' => q_fieldAddr (o' := 0) rfl fld78_0 rfl) ?_
   refine m_q3 rfl rfl (fun w' hC' => q_load Try.isAgg3 rfl (((hb5.has (o := 0) rfl).ext hC')) rfl) ?_
   refine m_q3 rfl rfl (fun w' hC' => q_move (v := .slice _ _ _) rfl rfl) ?_
   refine m_q3 rfl rfl (fun w' hC' => q_move (v := .int _ _) rfl rfl) ?_
   refine m_q3 rfl rfl (fun w' hC' => q_fieldAddr (o' := 1) rfl fld78_1 rfl) ?_
   refine m_q3 rfl rfl (fun w' hC' => q_load Try.isAgg3 rfl (((hb5.has (o := 1) rfl).ext hC')) rfl) ?_
   refine m_q3 rfl rfl (fun w' hC' => q_fieldAddr (o' := 0) rfl fld78_0 rfl) ?_
   refine m_q3 rfl rfl (fun w' hC' => q_load Try.isAgg3 rfl (((hb5.has (o := 0) rfl).ext hC')) rfl) ?_
   refine m_q3 rfl rfl (fun w' hC' => q_sub rfl rfl (by omega) rfl) ?_
   refine m_q3 rfl rfl (fun w' hC' => q_add rfl rfl (by omega) rfl) ?_
   refine m_o3 rfl rfl (o_call Try.call39 rfl (wordm_ret _ _ ws _ _ (hwd.below hB) hwn hwr (by omega)) rfl ?_)
   rintro _ w9 ⟨x, rfl, hx0, hx1, hE9⟩
   refine ⟨hE9, ?_⟩
   replace hB := below_ext hB hE9 hsz
   replace hb1 := hb1.ext hE9
   replace hty_b1 := hty_b1.ext hE9
   replace ho := own_ext ho hE9
   replace hb5 := hb5.ext hE9
   replace hsz := Nat.le_trans hsz hE9.size
   refine m_q3 rfl rfl (fun w' hC' => q_rem rfl rfl (by omega) rfl) ?_
   refine m_q3 rfl rfl (fun w' hC' => q_add rfl rfl (tru_rng hr0 hr1 hr2) rfl) ?_
   refine m_o3 rfl rfl (o_buildSlice (el := 3) (cs := [vint ((((G).getD k rg0).lo) + (x % (((((G).getD k rg0).hi) - (((G).getD k rg0).lo)) + 1)))]) Try.underlying22 el3 (by decide) (by kernel_rfl) rfl (by decide) rfl ?_)
   intro b10 w10 hzl10 hzr10 _ hb10 hE10 ho10
   refine ⟨hE10, ?_⟩
   have hne_b1_b10 : b1 ≠ b10 := by have := hb1.lt; omega
   have hne_b5_b10 : b5 ≠ b10 := by have := hb5.lt; omega
   have hbs_b10 : w.heap.size ≤ b10 := Nat.le_trans hsz hzl10
   replace hB := below_ext hB hE10 hsz
   replace hb1 := hb1.ext hE10
   replace hty_b1 := hty_b1.ext hE10
   replace ho := own_ext ho hE10
   replace hsz := Nat.le_trans hsz hE10.size
   refine m_last3 rfl rfl rfl (o_append_map (f := vint) (ys) ([(((G).getD k rg0).lo) + (x % (((((G).getD k rg0).hi) - (((G).getD k rg0).lo)) + 1))]) Try.underlying22 el3 rfl rfl ho rfl (Row.of_owns ho10) (fun _ => rfl) (by (try simp only [List.length_append, List.length_cons, List.length_nil, List.length_take, List.length_drop, List.length_replicate]); omega) (by omega) rfl ?_)
   intro a11 c11 w11 hz11 ho11 hG11
   replace hB := below_own hB hG11 ho (by omega) hsz
   replace hsz := Nat.le_trans hsz hG11.size
   replace hb1 := hb1.step hG11 (own_ty_ne ho hty_b1 (by decide))
   replace hty_b1 := TyAt.own hty_b1 ho hG11 (by decide)
   refine m_q3 rfl rfl (fun w' hC' => q_assign (v := .slice _ _ _) rfl rfl) ?_
   refine m_nil3 ?_
   refine r_forget [(1, .slice _ _ _), (2, .pointer _), (5, .slice _ _ _), (6, .int _ _)] ⟨rfl, rfl, rfl, rfl, trivial⟩ (fun e12 => ?_)
   refine r_inBlock (r_region' ?_)
   refine l_q (q_move (v := .int _ _) rfl rfl) ?_
   refine l_q (q_add rfl rfl (by omega) rfl) ?_
   refine l_q (q_assign (v := .int _ _) rfl rfl) ?_
   refine l_nil ?_
   exact ih2 (k + 1, a11, c11, ys ++ [(((G).getD k rg0).lo) + (x % (((((G).getD k rg0).hi) - (((G).getD k rg0).lo)) + 1))]) _ _ ⟨⟨rfl, rfl, rfl, (vint_eq (by omega)), trivial⟩, (by omega), (tru_snoc hy hr1), ho11, hb1, hty_b1, hsz, hB⟩ (by first | omega | (dsimp only; omega))
  ·
   replace hc3 := dlt hc3
   refine r_exit rfl ?_
   refine r_seq (r_region' ?_)
   refine l_q (q_move (v := .slice _ _ _) rfl rfl) ?_
   refine l_q (q_assign (v := .slice _ _ _) rfl rfl) ?_
   refine l_nil ?_
   refine r_forget [(4, .slice _ _ _)] ⟨rfl, trivial⟩ (fun e13 => ?_)
   refine r_ret_ (vs := [.slice _ _ _]) rfl Try.func16 rfl (.nil _) ⟨rfl, trivial⟩ ?_
   obtain rfl : k = G.length := by omega
   exact ⟨oa, oc, ys, rfl, ho, hy, Ext.of_below hB⟩
end Go.Proofs.Ytgdanglidienmaa
