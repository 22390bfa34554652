/- Contracts. -/
import Derived.Test.YtgdanglidienmaaGreatR16
import Derived.Test.YtgdanglidienmaaGreatR17
set_option linter.unusedVariables false
set_option linter.unusedSimpArgs false
namespace Go.Proofs.YtgdanglidienmaaGreat
open Go Go.RowKit Go.Gv Go.Fl

def digK (b n k : Nat) : List (List Int) := (List.range k).map (fun i => bitsL (n / b ^ i % b))
def nthL (p w n : Nat) : List (List Int) := digK (2 ^ p) n w
theorem dig_snoc {b n k : Nat} {M : List SV} {s : SV} (h : M.map (·.xs) = digK b n k) (hs : s.xs = bitsL (n / b ^ k % b) := by rfl) : (M ++ [s]).map (·.xs) = digK b n (k + 1) := by
  unfold digK at *
  rw [List.map_append, h, List.range_succ, List.map_append, List.map_cons, List.map_nil, hs]; rfl
theorem quo_step (n b k : Nat) : ((n / b ^ k : Nat) : Int) / (b : Int) = ((n / b ^ (k + 1) : Nat) : Int) := by
  rw [Nat.pow_succ, ← Nat.div_div_eq_div_mul]; rfl
theorem two_pow12 {p w : Nat} (h : p * w ≤ 12) : ∃ M : Nat, (2 : Int) ^ (((p : Int) * (w : Int)).toNat) = M ∧ M ≤ 4096 ∧ M = 2 ^ (p * w) := by
  refine ⟨2 ^ (p * w), ?_, ?_, rfl⟩
  · rw [show ((p : Int) * (w : Int)).toNat = p * w from by rw [← Int.natCast_mul, Int.toNat_natCast]]; simp
  · exact Nat.le_trans (Nat.pow_le_pow_right (by decide) h) (by decide)
theorem nth_facts {p w n : Nat} {R : List SV} (h : R.map (·.xs) = nthL p w n) (hp4 : p ≤ 4) : R.length = w ∧ ∀ s ∈ R, s.xs.length ≤ 20 ∧ ∀ i ∈ s.xs, 0 ≤ i ∧ i ≤ (p : Int) - 1 := by
  refine ⟨by have := congrArg List.length h; simpa [nthL, digK] using this, fun s hs => ?_⟩
  have h1 : s.xs ∈ nthL p w n := by rw [← h]; exact List.mem_map.2 ⟨s, hs, rfl⟩
  obtain ⟨i, _, he⟩ := List.mem_map.1 h1
  have h2 := ris_iff.1 (bits_ris (m := n / (2 ^ p) ^ i % 2 ^ p) (n := p) (Nat.mod_lt _ (Nat.two_pow_pos p)) (by omega))
  rw [← he]
  exact ⟨bits_len _, h2.2⟩
def inB (so : Nat) (x : Int) : Bool := decide (so / 2 ^ x.toNat % 2 = 1)
def inS (so : Nat) (l : List Int) : Bool := l.all (inB so)
/-- a rota is better than the best one up to now -/
def fineB (r b : List (List Int)) : Bool := decide (b.length = 0) || (decide (dut r < dut b) || (decide (dut r = dut b) && smB r b))
section
variable {r b : List (List Int)}
theorem fine_1 (h : b.length = 0) : fineB r b = true := by unfold fineB; rw [decide_eq_true h]; rfl
theorem fine_2 (h : dut r < dut b) : fineB r b = true := by unfold fineB; rw [decide_eq_true h]; simp
theorem fine_3 (h0 : b.length ≠ 0) (h : dut r = dut b) : fineB r b = smB r b := by unfold fineB; rw [decide_eq_false h0, decide_eq_false (by omega : ¬ dut r < dut b), decide_eq_true h]; rfl
theorem fine_4 (h0 : b.length ≠ 0) (h : ¬ dut r < dut b) (h2 : ¬ dut r = dut b) : fineB r b = false := by unfold fineB; rw [decide_eq_false h0, decide_eq_false h, decide_eq_false h2]; rfl
end
def bestS (nd : List Int) (pl : List PV) (C : List (List Int)) (so : Nat) (b : List (List Int)) (n : Nat) : List (List Int) := if ((fineB (nthL pl.length nd.length n) b && (nthL pl.length nd.length n).all (inS so)) && safeX nd pl C (nthL pl.length nd.length n)) = true then nthL pl.length nd.length n else b
def bestN (nd : List Int) (pl : List PV) (C : List (List Int)) (so n : Nat) : List (List Int) := (List.range n).foldl (bestS nd pl C so) []
theorem bestN_succ {nd : List Int} {pl : List PV} {C : List (List Int)} {so n : Nat} : bestN nd pl C so (n + 1) = bestS nd pl C so (bestN nd pl C so n) n := by unfold bestN; rw [List.range_succ, List.foldl_append]; rfl
theorem best_take {nd : List Int} {pl : List PV} {C : List (List Int)} {so n : Nat} {B R : List SV} (h : B.map (·.xs) = bestN nd pl C so n) (hN : R.map (·.xs) = nthL pl.length nd.length n) (h1 : (fineB (R.map (·.xs)) (B.map (·.xs)) && (R.map (·.xs)).all (inS so)) = true) (h2 : safeX nd pl C (R.map (·.xs)) = true) : R.map (·.xs) = bestN nd pl C so (n + 1) := by
  rw [bestN_succ, ← h]; unfold bestS
  rw [← hN, h1, h2]; rfl
theorem best_keep {nd : List Int} {pl : List PV} {C : List (List Int)} {so n : Nat} {B R : List SV} {q : Prop} {b : Bool} (h : B.map (·.xs) = bestN nd pl C so n) (hN : R.map (·.xs) = nthL pl.length nd.length n) (h1 : (fineB (R.map (·.xs)) (B.map (·.xs)) && (R.map (·.xs)).all (inS so)) = b) (h2 : q) (hq : b = false ∨ (q → safeX nd pl C (R.map (·.xs)) = false) := by first | exact .inl rfl | exact .inr (fun h => h)) : B.map (·.xs) = bestN nd pl C so (n + 1) := by
  rw [bestN_succ, ← h]; unfold bestS
  rw [← hN, h1]
  rcases hq with rfl | hq
  · rfl
  · rw [hq h2, Bool.and_false]; rfl
theorem shr_q2 (so : Nat) {x : Int} (_h : 0 ≤ x) : ∃ q : Nat, (so : Int) / 2 ^ x.toNat = q ∧ q = so / 2 ^ x.toNat := ⟨so / 2 ^ x.toNat, by simp, rfl⟩
theorem inb_next {so k : Nat} {l : List Int} {f : Bool} (hk : k < l.length) : ((f && (l.take k).all (inB so)) && inB so (l.getD k 0)) = (f && (l.take (k + 1)).all (inB so)) := by
  rw [take_succ_getD hk, List.all_append, List.all_cons, List.all_nil, Bool.and_true, Bool.and_assoc]
theorem ins_next {so i k : Nat} {R : List SV} {f : Bool} (hi : i < R.length) (hk : (R.getD i sv0).xs.length ≤ k) : ((f && ((R.map (·.xs)).take i).all (inS so)) && ((R.getD i sv0).xs.take k).all (inB so)) = (f && ((R.map (·.xs)).take (i + 1)).all (inS so)) := by
  rw [xs_take hi, List.all_append, List.all_cons, List.all_nil, Bool.and_true, Bool.and_assoc, List.take_of_length_le hk]; rfl
theorem ins_stop {so i : Nat} {T : List (List Int)} {f : Bool} (h : false = (f && (T.take i).all (inS so))) : false = (f && T.all (inS so)) := by
  cases f with
  | false => rfl
  | true =>
    rw [Bool.true_and] at h ⊢
    obtain ⟨x, hx, h2⟩ := List.all_eq_false.1 h.symm
    exact (List.all_eq_false.2 ⟨x, List.mem_of_mem_take hx, h2⟩).symm
/-- is there a safe rota with some people alone: the reference's word -/
def canN (nd : List Int) (pl : List PV) (C : List (List Int)) (so : Nat) : Bool := decide (0 < (bestN nd pl C so (2 ^ (pl.length * nd.length))).length)
theorem can_of {nd : List Int} {pl : List PV} {C : List (List Int)} {so : Nat} {B : List SV} (h : B.map (·.xs) = bestN nd pl C so (2 ^ (pl.length * nd.length))) : decide (0 < B.length) = canN nd pl C so := by
  unfold canN; rw [← h, List.length_map]
def enoughS (nd : List Int) (pl : List PV) (C : List (List Int)) (b : List Int) (k : Nat) : List Int := if (ltL (bitsL k) b && canN nd pl C k) = true then bitsL k else b
def enoughN (nd : List Int) (pl : List PV) (C : List (List Int)) (k : Nat) : List Int := if canN nd pl C (2 ^ pl.length - 1) = true then (List.range k).foldl (enoughS nd pl C) (bitsL (2 ^ pl.length - 1)) else bitsL (2 ^ pl.length - 1)

theorem en_succ {nd : List Int} {pl : List PV} {C : List (List Int)} {k : Nat} (h : canN nd pl C (2 ^ pl.length - 1) = true) : enoughN nd pl C (k + 1) = enoughS nd pl C (enoughN nd pl C k) k := by
  unfold enoughN
  rw [if_pos h, if_pos h, List.range_succ, List.foldl_append]; rfl
theorem en_zero {nd : List Int} {pl : List PV} {C : List (List Int)} : enoughN nd pl C 0 = bitsL (2 ^ pl.length - 1) := by
  unfold enoughN
  split <;> rfl
theorem en_none {nd : List Int} {pl : List PV} {C : List (List Int)} (h : canN nd pl C (2 ^ pl.length - 1) = false) (j k : Nat) : enoughN nd pl C j = enoughN nd pl C k := by
  unfold enoughN
  rw [if_neg (by rw [h]; decide), if_neg (by rw [h]; decide)]
section
variable {nd : List Int} {pl : List PV} {C : List (List Int)} {k : Nat} {B : List Int}
theorem en_take (h : B = enoughN nd pl C k) (h1 : ltL (bitsL k) B = true) (h2 : canN nd pl C k = true) (g : canN nd pl C (2 ^ pl.length - 1) = true := by assumption) : bitsL k = enoughN nd pl C (k + 1) := by rw [en_succ g, ← h]; unfold enoughS; rw [h1, h2]; rfl
theorem en_keep1 (h : B = enoughN nd pl C k) (h1 : ltL (bitsL k) B = false) (g : canN nd pl C (2 ^ pl.length - 1) = true := by assumption) : B = enoughN nd pl C (k + 1) := by rw [en_succ g, ← h]; unfold enoughS; rw [h1]; rfl
theorem en_keep2 (h : B = enoughN nd pl C k) (h1 : ltL (bitsL k) B = true) (h2 : canN nd pl C k = false) (g : canN nd pl C (2 ^ pl.length - 1) = true := by assumption) : B = enoughN nd pl C (k + 1) := by rw [en_succ g, ← h]; unfold enoughS; rw [h1, h2]; rfl
end


theorem nth_ret (na : Option Addr) (nc : Nat) (nd : List Int) (pa : Option Addr) (pc : Nat) (pl : List PV) (ca : Option Addr) (cc : Nat) (L : List SV) (n : Nat) (w : World) (hpo : PoAt w na nc nd pa pc pl ca cc L) (hok : faultP (po nd pl L) = 0) (hn : n < 1048576) : Ret Tryz.prog 101 [.agg ⟨[.slice na nd.length nc, .slice pa pl.length pc, .slice ca L.length cc]⟩, vint (n : Int)] w (fun v w' => ∃ oa oc L2, v = .slice oa L2.length oc ∧ w'.ownsRow w.heap.size 22 1 (.slice oa L2.length oc) L2.length (L2.map SV.enc) ∧ OwnsI w' w.heap.size 3 L2 ∧ L2.map (·.xs) = nthL pl.length nd.length n ∧ Ext w w') := by
 obtain ⟨⟨hn1, hn5⟩, ⟨hp1, hp4⟩, hL4, hnn, hpp, hLL⟩ := po_ok hok
 obtain ⟨N, hN, hN16, hNn⟩ := two_pow hp4
 have hN0 : 0 < N := by rw [hNn]; exact Nat.two_pow_pos _
 have hB := Below.refl w.heap.size w
 have hsz : w.heap.size ≤ w.heap.size := Nat.le_refl _
 refine ret_of_runs (args := [_, _]) Tryz.func101 rfl (Nat.le_of_ble_eq_true rfl) (by kernel_rfl) ?_
 refine r_seq (r_region' ?_)
 refine l_o (o_boxt rfl rfl rfl ?_)
 intro b1 w1 hzl1 hzr1 _ hb1 hty_b1 hE1
 have hbs_b1 : w.heap.size ≤ b1 := Nat.le_trans hsz hzl1
 replace hB := below_ext hB hE1 hsz
 replace hsz := Nat.le_trans hsz hE1.size
 refine l_q (q_assign (v := .slice _ _ _) rfl rfl) ?_
 refine l_nil (r_seq (r_region' ?_))
 refine l_q (q_assign (v := .slice _ _ _) rfl rfl) ?_
 refine l_nil (r_seq (r_region' ?_))
 refine l_q (q_fieldAddr (o' := 1) rfl fld26_1 rfl) ?_
 refine l_q (q_load Tryz.isAgg23 rfl ((hb1.has (o := 1) rfl)) rfl) ?_
 refine l_q (q_len rfl Tryz.underlying23 rfl rfl) ?_
 refine l_q (q_toUint Tryz.underlying3 Tryz.underlying75 rfl (by omega) rfl) ?_
 refine l_q (q_shl rfl rfl (by omega) (by omega) rfl) ?_
 refine l_q (q_assign (v := .int _ _) rfl rfl) ?_
 refine l_nil (r_seq (r_seq ?_))
 refine r_forget [(0, .agg _), (1, .int _ _), (2, .pointer _), (4, .slice _ _ _), (5, .slice _ _ _), (6, vint (N : Int)), (8, .pointer _), (9, .slice _ _ _), (10, .int _ _), (11, .int _ _), (12, .int _ _)] ⟨rfl, rfl, rfl, rfl, rfl, vint_eq (by omega), rfl, rfl, rfl, rfl, rfl, trivial⟩ (fun e2 => ?_)
 refine r_region' ?_
 refine l_q (q_assign (v := .int _ _) rfl rfl) ?_
 refine l_nil (r_block ?_)
 refine r_rounds (α := Nat × (Option Addr) × Nat × (List SV)) (fun ⟨k, oa, oc, M⟩ e wl => Knows e [(1, vint ((n / N ^ k : Nat) : Int)), (2, ptr b1 0), (5, .slice oa ((M).length) oc), (6, vint (N : Int)), (7, vint (k : Int))] ∧ (k ≤ nd.length) ∧ (M.map (·.xs) = digK N n k) ∧ (M.length = k) ∧ (wl.ownsRow w.heap.size 22 1 (.slice oa ((M).length) oc) ((M).length) ((M).map SV.enc)) ∧ (OwnsI wl w.heap.size 3 M) ∧ (Blk wl b1 [.slice na nd.length nc, .slice pa pl.length pc, .slice ca L.length cc]) ∧ (TyAt wl b1 26) ∧ (w.heap.size ≤ wl.heap.size) ∧ (Below w.heap.size w wl)) (fun ⟨k, oa, oc, M⟩ => nd.length - k) (0, none, 0, []) ?_ ?_
 ·
  exact ⟨⟨(vint_eq (by rw [Nat.pow_zero, Nat.div_one])), rfl, rfl, rfl, rfl, trivial⟩, (Nat.zero_le _), rfl, rfl, (World.ownsRow_nil _ _ _ _), (OwnsI.nil _ _ _), hb1, hty_b1, hsz, hB⟩
 ·
  rintro ⟨k, oa, oc, M⟩ el3 wl3 ⟨hkn, hk, hM, hMl, hw, hos, hb1, hty_b1, hsz, hB⟩ ih3
  obtain ⟨e3, rfl⟩ := knows_env hkn
  refine r_seq (r_seq (r_region' ?_))
  refine l_q (q_move (v := .int _ _) rfl rfl) ?_
  refine l_q (q_fieldAddr (o' := 0) rfl fld26_0 rfl) ?_
  refine l_q (q_load Tryz.isAgg22 rfl ((hb1.has (o := 0) rfl)) rfl) ?_
  refine l_q (q_len rfl Tryz.underlying22 rfl rfl) ?_
  refine l_q (q_lss rfl rfl rfl) ?_
  refine l_nil ?_
  refine r_cond rfl (fun hc4 => ?_) (fun hc4 => ?_)
  ·
   replace hc4 := dt hc4
   have hkn : k < nd.length := by omega
   refine r_skip (r_seq (r_block (r_seq (r_region' ?_))))
   refine l_q (q_move (v := .slice _ _ _) rfl rfl) ?_
   refine l_q (q_move (v := .int _ _) rfl rfl) ?_
   refine l_q (q_move (v := .int _ _) rfl rfl) ?_
   refine l_q (q_rem rfl rfl (⟨Int.natCast_nonneg _, by omega⟩) rfl) ?_
   refine l_o (o_call Tryz.call45 rfl (bits_ret (n / N ^ k % N) _ (by have := Nat.mod_lt (n / N ^ k) hN0; omega)) rfl ?_)
   rintro _ w5 ⟨a5_0, c5_0, rfl, ho5_0, hE5⟩
   replace ho5_0 := own_mono ho5_0 (show w.heap.size ≤ _ by omega)
   replace hB := below_ext hB hE5 hsz
   replace hb1 := hb1.ext hE5
   replace hty_b1 := hty_b1.ext hE5
   replace hw := own_ext hw hE5
   replace hos := hos.ext hE5
   replace hsz := Nat.le_trans hsz hE5.size
   refine l_o (o_buildSlice (el := 22) (cs := [.slice a5_0 ((bitsL (n / N ^ k % N)).length) c5_0]) Tryz.underlying24 el22 (by decide) (by kernel_rfl) rfl (by decide) rfl ?_)
   intro b6 w6 hzl6 hzr6 _ hb6 hE6 ho6
   have hne_b1_b6 : b1 ≠ b6 := by have := hb1.lt; omega
   have hbs_b6 : w.heap.size ≤ b6 := Nat.le_trans hsz hzl6
   replace hB := below_ext hB hE6 hsz
   replace hb1 := hb1.ext hE6
   replace hty_b1 := hty_b1.ext hE6
   replace hw := own_ext hw hE6
   replace hos := hos.ext hE6
   replace ho5_0 := own_ext ho5_0 hE6
   replace hsz := Nat.le_trans hsz hE6.size
   have hos6 : OwnsI w6 w.heap.size 3 ([⟨a5_0, c5_0, bitsL (n / N ^ k % N)⟩] : List SV) := OwnsI.snoc (OwnsI.nil _ _ _) (own_mono ho5_0 (by omega))
   refine l_o (o_append_map (f := SV.enc) (M) (([⟨a5_0, c5_0, bitsL (n / N ^ k % N)⟩] : List SV)) Tryz.underlying24 el22 rfl rfl hw rfl (Row.of_owns ho6) (fun _ => rfl) (by (try simp only [List.length_append, List.length_cons, List.length_nil, List.length_take, List.length_drop, List.length_replicate]); omega) (by omega) rfl ?_)
   intro a7 c7 w7 hz7 ho7 hG7
   replace hB := below_own hB hG7 hw (by omega) hsz
   replace hsz := Nat.le_trans hsz hG7.size
   replace hb1 := hb1.step hG7 (own_ty_ne hw hty_b1 (by decide))
   replace hos := hos.kept hw (by decide) hG7
   replace ho5_0 := own_kept ho5_0 hw (by decide) hG7
   replace hty_b1 := TyAt.own hty_b1 hw hG7 (by decide)
   refine l_q (q_assign (v := .slice _ _ _) rfl rfl) ?_
   refine l_nil ?_
   refine r_forget [(1, .int _ _), (2, .pointer _), (5, .slice _ _ _), (6, .int _ _), (7, .int _ _)] ⟨rfl, rfl, rfl, rfl, rfl, trivial⟩ (fun e8 => ?_)
   refine r_region' ?_
   refine l_q (q_move (v := .int _ _) rfl rfl) ?_
   refine l_q (q_move (v := .int _ _) rfl rfl) ?_
   refine l_q (q_quo rfl rfl (⟨Int.natCast_nonneg _, Int.le_trans (Int.ofNat_le.2 (Nat.le_trans (Nat.div_le_self n (N ^ k)) (Nat.le_of_lt hn))) (by decide), by omega⟩) rfl) ?_
   refine l_q (q_assign (v := .int _ _) rfl rfl) ?_
   refine l_nil (r_inBlock (r_region' ?_))
   refine l_q (q_move (v := .int _ _) rfl rfl) ?_
   refine l_q (q_add rfl rfl (by omega) rfl) ?_
   refine l_q (q_assign (v := .int _ _) rfl rfl) ?_
   refine l_nil ?_
   exact ih3 (k + 1, a7, c7, M ++ ([⟨a5_0, c5_0, bitsL (n / N ^ k % N)⟩] : List SV)) _ _ ⟨⟨(vint_eq (quo_step n N k)), rfl, rfl, rfl, (vint_eq (by omega)), trivial⟩, (by omega), (dig_snoc hM), (by rw [List.length_append, hMl]; rfl), ho7, (OwnsI.snoc hos (own_mono ho5_0 (by omega))), hb1, hty_b1, hsz, hB⟩ (by first | omega | (dsimp only; omega))
  ·
   replace hc4 := dlt hc4
   refine r_exit rfl ?_
   refine r_seq (r_region' ?_)
   refine l_q (q_move (v := .slice _ _ _) rfl rfl) ?_
   refine l_q (q_assign (v := .slice _ _ _) rfl rfl) ?_
   refine l_nil ?_
   refine r_forget [(4, .slice _ _ _)] ⟨rfl, trivial⟩ (fun e9 => ?_)
   refine r_ret_ (vs := [.slice _ _ _]) rfl Tryz.func101 rfl (.nil _) ⟨rfl, trivial⟩ ?_
   exact ⟨oa, oc, M, rfl, hw, hos, (by rw [hM, show k = nd.length by omega, hNn]; rfl), Ext.of_below hB⟩
set_option maxHeartbeats 1000000 in
theorem best10_ret (na : Option Addr) (nc : Nat) (nd : List Int) (pa : Option Addr) (pc : Nat) (pl : List PV) (ca : Option Addr) (cc : Nat) (L : List SV) (so : Nat) (w : World) (hpo : PoAt w na nc nd pa pc pl ca cc L) (hok : faultP (po nd pl L) = 0) (hsm : pl.length * nd.length ≤ 12) (hso : so < 1048576) : Ret Tryz.prog 54 [.agg ⟨[.slice na nd.length nc, .slice pa pl.length pc, .slice ca L.length cc]⟩, vint (so : Int)] w (fun v w' => ∃ ba bc B, v = .tuple ⟨[.slice ba B.length bc, .bool (decide (0 < B.length))]⟩ ∧ Row w' ba B.length bc 1 (B.map SV.enc) ∧ RowsI w' B ∧ B.map (·.xs) = bestN nd pl (L.map (·.xs)) so (2 ^ (pl.length * nd.length)) ∧ Ext w w') := by
 obtain ⟨⟨hn1, hn5⟩, ⟨hp1, hp4⟩, hL4, hnn, hpp, hLL⟩ := po_ok hok
 obtain ⟨M, hM, hM4, hMn⟩ := two_pow12 hsm
 have hB := Below.refl w.heap.size w
 have hsz : w.heap.size ≤ w.heap.size := Nat.le_refl _
 refine ret_of_runs (args := [_, _]) Tryz.func54 rfl (Nat.le_of_ble_eq_true rfl) (by kernel_rfl) ?_
 refine r_seq (r_region' ?_)
 refine l_o (o_box rfl rfl rfl ?_)
 intro b1 w1 hzl1 hzr1 _ hb1 hE1
 have hbs_b1 : w.heap.size ≤ b1 := Nat.le_trans hsz hzl1
 replace hB := below_ext hB hE1 hsz
 replace hsz := Nat.le_trans hsz hE1.size
 refine l_q (q_assign (v := .slice _ _ _) rfl rfl) ?_
 refine l_q (q_assign (v := .bool _) rfl rfl) ?_
 refine l_nil (r_seq (r_region' ?_))
 refine l_q (q_assign (v := .slice _ _ _) rfl rfl) ?_
 refine l_nil (r_seq (r_region' ?_))
 refine l_q (q_fieldAddr (o' := 1) rfl fld26_1 rfl) ?_
 refine l_q (q_load Tryz.isAgg23 rfl ((hb1.has (o := 1) rfl)) rfl) ?_
 refine l_q (q_len rfl Tryz.underlying23 rfl rfl) ?_
 refine l_q (q_fieldAddr (o' := 0) rfl fld26_0 rfl) ?_
 refine l_q (q_load Tryz.isAgg22 rfl ((hb1.has (o := 0) rfl)) rfl) ?_
 refine l_q (q_len rfl Tryz.underlying22 rfl rfl) ?_
 refine l_q (q_mul rfl rfl (⟨by omega, by omega⟩) rfl) ?_
 refine l_q (q_toUint Tryz.underlying3 Tryz.underlying75 rfl (by omega) rfl) ?_
 refine l_q (q_shl rfl rfl (by omega) (by rw [hM]; omega) rfl) ?_
 refine l_q (q_assign (v := .int _ _) rfl rfl) ?_
 refine l_nil ?_
 refine r_forget [(1, .int _ _), (2, .pointer _), (6, .slice _ _ _), (7, .int _ _)] ⟨rfl, rfl, rfl, rfl, trivial⟩ (fun e2 => ?_)
 refine r_seq (r_seq ?_)
 refine r_forget [(1, .int _ _), (2, .pointer _), (6, .slice _ _ _), (7, vint (M : Int))] ⟨rfl, rfl, rfl, vint_eq (by rw [hM]; omega), trivial⟩ (fun e3 => ?_)
 refine r_region' ?_
 refine l_q (q_assign (v := .int _ _) rfl rfl) ?_
 refine l_nil (r_block ?_)
 refine r_rounds (α := Nat × (Option Addr) × Nat × (List SV)) (fun ⟨n, ba, bc, B⟩ e wl => Knows e [(1, vint (so : Int)), (2, ptr b1 0), (6, .slice ba B.length bc), (7, vint (M : Int)), (8, vint (n : Int))] ∧ (n ≤ M) ∧ (B.map (·.xs) = bestN nd pl (L.map (·.xs)) so n) ∧ (B.length ≤ 2097152 ∧ ∀ s ∈ B, s.xs.length ≤ 2097152) ∧ (Row wl ba B.length bc 1 (B.map SV.enc)) ∧ (RowsI wl B) ∧ (Blk wl b1 [.slice na nd.length nc, .slice pa pl.length pc, .slice ca L.length cc]) ∧ (w.heap.size ≤ wl.heap.size) ∧ (Below w.heap.size w wl)) (fun ⟨n, ba, bc, B⟩ => M - n) (0, none, 0, []) ?_ ?_
 ·
  exact ⟨⟨rfl, rfl, rfl, rfl, rfl, trivial⟩, (Nat.zero_le _), rfl, ⟨by decide, fun s hs => by simp at hs⟩, (Row.nil _ _ _ _), (RowsI.nil _), hb1, hsz, hB⟩
 ·
  rintro ⟨n, ba, bc, B⟩ el4 wl4 ⟨hkn, hn, hB2, hBx, hBw, hBr, hb1, hsz, hB⟩ ih4
  obtain ⟨e4, rfl⟩ := knows_env hkn
  refine r_seq (r_seq (r_region' ?_))
  refine l_q (q_move (v := .int _ _) rfl rfl) ?_
  refine l_q (q_move (v := .int _ _) rfl rfl) ?_
  refine l_q (q_lss rfl rfl rfl) ?_
  refine l_nil ?_
  refine r_cond rfl (fun hc5 => ?_) (fun hc5 => ?_)
  ·
   replace hc5 := dt hc5
   have hnM : n < M := by omega
   refine r_skip (r_seq (r_block (r_seq (r_region' ?_))))
   refine l_q (q_load_agg (n := 3) Tryz.isAgg26 Tryz.sizeOf26 rfl ((hb1.cells' (cs' := [_, _, _]) 0 3 rfl)) rfl rfl) ?_
   refine l_q (q_move (v := .int _ _) rfl rfl) ?_
   refine l_o (o_call Tryz.call101 rfl (nth_ret na nc nd pa pc pl ca cc L n _ (hpo.below hB) hok (by omega)) rfl ?_)
   rintro _ w6 ⟨ra, rc, R, rfl, hNo, hNs, hNm, hE6⟩
   replace hB := below_ext hB hE6 hsz
   replace hb1 := hb1.ext hE6
   replace hBw := hBw.ext hE6
   replace hBr := hBr.ext hE6
   replace hsz := Nat.le_trans hsz hE6.size
   have hN := Row.of_owns hNo
   have hNr := hNs.rows
   have hNx := nth_facts hNm hp4
   have hRx : ∀ s ∈ R, s.xs.length ≤ 2097152 := fun s hs => by have := (hNx.2 s hs).1; omega
   have hRl : R.length ≤ 2097152 := by omega
   refine l_q (q_assign (v := .slice _ _ _) rfl rfl) ?_
   refine l_nil (r_seq (r_region' ?_))
   refine l_q (q_move (v := .slice _ _ _) rfl rfl) ?_
   refine l_q (q_len rfl Tryz.underlying24 rfl rfl) ?_
   refine l_q (q_eql rfl rfl rfl) ?_
   refine l_q (q_move (v := .bool _) rfl rfl) ?_
   refine l_part 33 rfl (fun hc7 => ?_) (fun hc7 => ?_)
   ·
    replace hc7 := dt hc7
    have g33 := hc7
    refine l_q (q_skip rfl) ?_
    refine l_q (q_skip rfl) ?_
    refine l_q (q_skip rfl) ?_
    refine l_q (q_skip rfl) ?_
    refine l_q (q_skip rfl) ?_
    refine l_q (q_pick_t (v := .bool _) rfl rfl rfl) ?_
    refine l_q (q_move (v := .bool _) rfl rfl) ?_
    refine l_q (q_skip rfl) ?_
    refine l_q (q_skip rfl) ?_
    refine l_q (q_skip rfl) ?_
    refine l_q (q_skip rfl) ?_
    refine l_q (q_skip rfl) ?_
    refine l_q (q_skip rfl) ?_
    refine l_q (q_skip rfl) ?_
    refine l_q (q_skip rfl) ?_
    refine l_q (q_skip rfl) ?_
    refine l_q (q_skip rfl) ?_
    refine l_q (q_pick_t (v := .bool _) rfl rfl rfl) ?_
    refine l_q (q_assign (v := .bool _) rfl rfl) ?_
    refine l_nil ?_
    refine r_forget [(1, .int _ _), (2, .pointer _), (6, .slice _ _ _), (7, .int _ _), (8, .int _ _), (9, .slice _ _ _), (10, .bool _)] ⟨rfl, rfl, rfl, rfl, rfl, rfl, rfl, trivial⟩ (fun e8 => ?_)
    refine r_seq (r_seq ?_)
    have hf0 : true = fineB (R.map (·.xs)) (B.map (·.xs)) := by first | exact (fine_1 (by rw [List.length_map]; omega)).symm | exact (fine_2 (by omega)).symm | exact (fine_3 (by rw [List.length_map]; omega) (by omega)).symm | exact (fine_4 (by rw [List.length_map]; omega) (by omega) (by omega)).symm
    refine r_forget [(1, .int _ _), (2, .pointer _), (6, .slice _ _ _), (7, .int _ _), (8, .int _ _), (9, .slice _ _ _), (10, .bool (fineB (R.map (·.xs)) (B.map (·.xs))))] ⟨rfl, rfl, rfl, rfl, rfl, rfl, vbool_eq hf0, trivial⟩ (fun e9 => ?_)
    refine r_region' ?_
    refine l_q (q_assign (v := .int _ _) rfl rfl) ?_
    refine l_nil (r_block ?_)
    refine r_rounds (α := Nat × Bool) (fun ⟨i, f⟩ e wl => Knows e [(1, vint (so : Int)), (2, ptr b1 0), (6, .slice ba B.length bc), (7, vint (M : Int)), (8, vint (n : Int)), (9, .slice ra R.length rc), (10, .bool f), (11, vint (i : Int))] ∧ (i ≤ R.length) ∧ (f = (fineB (R.map (·.xs)) (B.map (·.xs)) && ((R.map (·.xs)).take i).all (inS so))) ∧ (Blk wl b1 [.slice na nd.length nc, .slice pa pl.length pc, .slice ca L.length cc]) ∧ (Row wl ba B.length bc 1 (B.map SV.enc)) ∧ (RowsI wl B) ∧ (Row wl ra R.length rc 1 (R.map SV.enc)) ∧ (RowsI wl R) ∧ (w.heap.size ≤ wl.heap.size) ∧ (Below w.heap.size w wl)) (fun ⟨i, f⟩ => R.length - i) (0, fineB (R.map (·.xs)) (B.map (·.xs))) ?_ ?_
    ·
     exact ⟨⟨rfl, rfl, rfl, rfl, rfl, rfl, (vbool_eq (by simp)), rfl, trivial⟩, (Nat.zero_le _), (by simp), hb1, hBw, hBr, hN, hNr, hsz, hB⟩
    ·
     rintro ⟨i, f⟩ el10 wl10 ⟨hkn, hi, hf, hb1, hBw, hBr, hN, hNr, hsz, hB⟩ ih10
     obtain ⟨e10, rfl⟩ := knows_env hkn
     refine r_seq (r_seq (r_region' ?_))
     refine l_q (q_move (v := .int _ _) rfl rfl) ?_
     refine l_q (q_move (v := .slice _ _ _) rfl rfl) ?_
     refine l_q (q_len rfl Tryz.underlying24 rfl rfl) ?_
     refine l_q (q_lss rfl rfl rfl) ?_
     refine l_q (q_move (v := .bool _) rfl rfl) ?_
     refine l_part 56 rfl (fun hc11 => ?_) (fun hc11 => ?_)
     ·
      replace hc11 := dt hc11
      have hiR : i < R.length := by omega
      have hix := hNx.2 _ (getD_lt (d := sv0) hiR)
      refine l_q (q_move (v := .bool _) rfl rfl) ?_
      refine l_q (q_pick_t (v := .bool _) rfl rfl rfl) ?_
      refine l_nil ?_
      refine r_cond rfl (fun hc12 => ?_) (fun hc12 => ?_)
      ·
       refine r_skip (r_seq (r_block (r_seq (r_region' ?_))))
       refine l_q (q_assign (v := .int _ _) rfl rfl) ?_
       refine l_nil (r_block ?_)
       refine r_rounds (α := Nat × Bool) (fun ⟨k, g⟩ e wl => Knows e [(1, vint (so : Int)), (2, ptr b1 0), (6, .slice ba B.length bc), (7, vint (M : Int)), (8, vint (n : Int)), (9, .slice ra R.length rc), (10, .bool g), (11, vint (i : Int)), (12, vint (k : Int))] ∧ (k ≤ (R.getD i sv0).xs.length) ∧ (g = (f && ((R.getD i sv0).xs.take k).all (inB so))) ∧ (Blk wl b1 [.slice na nd.length nc, .slice pa pl.length pc, .slice ca L.length cc]) ∧ (Row wl ba B.length bc 1 (B.map SV.enc)) ∧ (RowsI wl B) ∧ (Row wl ra R.length rc 1 (R.map SV.enc)) ∧ (RowsI wl R) ∧ (w.heap.size ≤ wl.heap.size) ∧ (Below w.heap.size w wl)) (fun ⟨k, g⟩ => (R.getD i sv0).xs.length - k) (0, f) ?_ ?_
       ·
        exact ⟨⟨rfl, rfl, rfl, rfl, rfl, rfl, rfl, rfl, rfl, trivial⟩, (Nat.zero_le _), (by simp), hb1, hBw, hBr, hN, hNr, hsz, hB⟩
       ·
        rintro ⟨k, g⟩ el13 wl13 ⟨hkn, hk, hg, hb1, hBw, hBr, hN, hNr, hsz, hB⟩ ih13
        obtain ⟨e13, rfl⟩ := knows_env hkn
        refine r_seq (r_seq (r_region' ?_))
        refine l_q (q_move (v := .int _ _) rfl rfl) ?_
        refine l_q (q_move (v := .slice _ _ _) rfl rfl) ?_
        refine l_q (q_move (v := .int _ _) rfl rfl) ?_
        obtain ⟨b14, o14, ha14, hh14⟩ := hN.at1 i ((R).getD i sv0) (getD_some (by omega))
        refine l_q (q_indexAddr1 Tryz.underlying24 Tryz.sizeOf22 rfl ha14 rfl (by omega) rfl) ?_
        refine l_q (q_load Tryz.isAgg22 rfl (hh14) rfl) ?_
        refine l_q (q_len rfl Tryz.underlying22 rfl rfl) ?_
        refine l_q (q_lss rfl rfl rfl) ?_
        refine l_nil ?_
        refine r_cond rfl (fun hc15 => ?_) (fun hc15 => ?_)
        ·
         replace hc15 := dt hc15
         have hkx : k < (R.getD i sv0).xs.length := by omega
         have hko := hix.2 _ (getD_lt (d := 0) hkx)
         obtain ⟨q, hq, hqn⟩ := shr_q2 so hko.1
         refine r_skip (r_seq (r_block (r_region' ?_)))
         refine l_q (q_move (v := .bool _) rfl rfl) ?_
         refine l_q (q_move (v := .bool _) rfl rfl) ?_
         refine l_part 71 rfl (fun hc16 => ?_) (fun hc16 => ?_)
         ·
          have gg := hc16
          refine l_q (q_move (v := .int _ _) rfl rfl) ?_
          refine l_q (q_move (v := .slice _ _ _) rfl rfl) ?_
          refine l_q (q_move (v := .int _ _) rfl rfl) ?_
          obtain ⟨b17, o17, ha17, hh17⟩ := hN.at1 i ((R).getD i sv0) (getD_some (by omega))
          refine l_q (q_indexAddr1 Tryz.underlying24 Tryz.sizeOf22 rfl ha17 rfl (by omega) rfl) ?_
          refine l_q (q_load Tryz.isAgg22 rfl (hh17) rfl) ?_
          refine l_q (q_move (v := .int _ _) rfl rfl) ?_
          obtain ⟨b18, o18, ha18, hh18⟩ := (RowsI.get (hNr) (i := i) (by omega)).at1 k ((((R).getD i sv0).xs).getD k 0) (getD_some (by omega))
          refine l_q (q_indexAddr1 Tryz.underlying22 Tryz.sizeOf3 rfl ha18 rfl (by omega) rfl) ?_
          refine l_q (q_load Tryz.isAgg3 rfl (hh18) rfl) ?_
          refine l_q (q_toUint Tryz.underlying3 Tryz.underlying75 rfl (by omega) rfl) ?_
          refine l_q (q_shr rfl rfl (⟨by omega, by omega⟩) rfl) ?_
          refine l_q (q_rem rfl rfl (by omega) rfl) ?_
          refine l_q (q_eql rfl rfl rfl) ?_
          refine l_q (q_pick_t (v := .bool _) rfl rfl rfl) ?_
          refine l_q (q_assign (v := .bool _) rfl rfl) ?_
          refine l_nil ?_
          refine r_forget [(1, .int _ _), (2, .pointer _), (6, .slice _ _ _), (7, .int _ _), (8, .int _ _), (9, .slice _ _ _), (10, .bool _), (11, .int _ _), (12, .int _ _)] ⟨rfl, rfl, rfl, rfl, rfl, rfl, rfl, rfl, rfl, trivial⟩ (fun e19 => ?_)
          refine r_inBlock (r_region' ?_)
          refine l_q (q_move (v := .int _ _) rfl rfl) ?_
          refine l_q (q_add rfl rfl (by omega) rfl) ?_
          refine l_q (q_assign (v := .int _ _) rfl rfl) ?_
          refine l_nil ?_
          exact ih13 (k + 1, (decide ((((so : Int) / 2 ^ (((((R).getD i sv0).xs).getD k 0).toNat)) % 2) = 1))) _ _ ⟨⟨rfl, rfl, rfl, rfl, rfl, rfl, rfl, rfl, (vint_eq (by omega)), trivial⟩, (by omega), (by rw [← inb_next hkx, ← hg]; first | (rw [gg, Bool.true_and]; unfold inB; rw [decide_eq_decide, ← hqn]; omega) | (rw [gg]; rfl)), hb1, hBw, hBr, hN, hNr, hsz, hB⟩ (by first | omega | (dsimp only; omega))
         ·
          have gg := hc16
          refine l_q (q_skip rfl) ?_
          refine l_q (q_skip rfl) ?_
          refine l_q (q_skip rfl) ?_
          refine l_q (q_skip rfl) ?_
          refine l_q (q_skip rfl) ?_
          refine l_q (q_skip rfl) ?_
          refine l_q (q_skip rfl) ?_
          refine l_q (q_skip rfl) ?_
          refine l_q (q_skip rfl) ?_
          refine l_q (q_skip rfl) ?_
          refine l_q (q_skip rfl) ?_
          refine l_q (q_skip rfl) ?_
          refine l_q (q_pick_f (v := .bool _) rfl rfl rfl) ?_
          refine l_q (q_assign (v := .bool _) rfl rfl) ?_
          refine l_nil ?_
          refine r_forget [(1, .int _ _), (2, .pointer _), (6, .slice _ _ _), (7, .int _ _), (8, .int _ _), (9, .slice _ _ _), (10, .bool _), (11, .int _ _), (12, .int _ _)] ⟨rfl, rfl, rfl, rfl, rfl, rfl, rfl, rfl, rfl, trivial⟩ (fun e20 => ?_)
          refine r_inBlock (r_region' ?_)
          refine l_q (q_move (v := .int _ _) rfl rfl) ?_
          refine l_q (q_add rfl rfl (by omega) rfl) ?_
          refine l_q (q_assign (v := .int _ _) rfl rfl) ?_
          refine l_nil ?_
          exact ih13 (k + 1, false) _ _ ⟨⟨rfl, rfl, rfl, rfl, rfl, rfl, rfl, rfl, (vint_eq (by omega)), trivial⟩, (by omega), (by rw [← inb_next hkx, ← hg]; first | (rw [gg, Bool.true_and]; unfold inB; rw [decide_eq_decide, ← hqn]; omega) | (rw [gg]; rfl)), hb1, hBw, hBr, hN, hNr, hsz, hB⟩ (by first | omega | (dsimp only; omega))
        ·
         replace hc15 := dlt hc15
         refine r_exit rfl ?_
         refine r_inBlock (r_region' ?_)
         refine l_q (q_move (v := .int _ _) rfl rfl) ?_
         refine l_q (q_add rfl rfl (by omega) rfl) ?_
         refine l_q (q_assign (v := .int _ _) rfl rfl) ?_
         refine l_nil ?_
         refine r_forget [(1, .int _ _), (2, .pointer _), (6, .slice _ _ _), (7, .int _ _), (8, .int _ _), (9, .slice _ _ _), (10, .bool _), (11, .int _ _)] ⟨rfl, rfl, rfl, rfl, rfl, rfl, rfl, rfl, trivial⟩ (fun e21 => ?_)
         exact ih10 (i + 1, g) _ _ ⟨⟨rfl, rfl, rfl, rfl, rfl, rfl, rfl, (vint_eq (by omega)), trivial⟩, (by omega), (by rw [hg, hf]; exact ins_next hiR (by omega)), hb1, hBw, hBr, hN, hNr, hsz, hB⟩ (by first | omega | (dsimp only; omega))
      ·
       have hff := hc12
       have hgt : f = (fineB (R.map (·.xs)) (B.map (·.xs)) && (R.map (·.xs)).all (inS so)) := by rw [hff] at hf ⊢; exact ins_stop hf
       refine r_exit rfl ?_
       refine r_seq (r_region' ?_)
       refine l_q (q_move (v := .bool _) rfl rfl) ?_
       refine l_q (q_move (v := .bool _) rfl rfl) ?_
       refine l_part 86 rfl (fun hc22 => ?_) (fun hc22 => ?_)
       ·
        have hg1 : (fineB (R.map (·.xs)) (B.map (·.xs)) && (R.map (·.xs)).all (inS so)) = true := by rw [← hgt]; exact hc22
        refine l_q (q_load_agg (n := 3) Tryz.isAgg26 Tryz.sizeOf26 rfl ((hb1.cells' (cs' := [_, _, _]) 0 3 rfl)) rfl rfl) ?_
        refine l_q (q_move (v := .slice _ _ _) rfl rfl) ?_
        refine l_o (o_call Tryz.call52 rfl (safe10_ret na nc nd pa pc pl ca cc L _ _ R _ (hpo.below hB) hok hN hNr hRl hRx (by omega) (fun s hs => (hNx.2 s hs).2)) rfl ?_)
        rintro _ w23 ⟨rfl, hE23⟩
        replace hB := below_ext hB hE23 hsz
        replace hb1 := hb1.ext hE23
        replace hBw := hBw.ext hE23
        replace hBr := hBr.ext hE23
        replace hN := hN.ext hE23
        replace hNr := hNr.ext hE23
        replace hsz := Nat.le_trans hsz hE23.size
        refine l_q (q_pick_t (v := .bool _) rfl rfl rfl) ?_
        refine l_nil ?_
        refine r_forget [(1, .int _ _), (2, .pointer _), (6, .slice _ _ _), (7, .int _ _), (8, .int _ _), (9, .slice _ _ _), (90, .bool _)] ⟨rfl, rfl, rfl, rfl, rfl, rfl, rfl, trivial⟩ (fun e24 => ?_)
        refine r_cond rfl (fun hc25 => ?_) (fun hc25 => ?_)
        ·
         have hg2 := hc25
         refine r_region' ?_
         refine l_q (q_move (v := .slice _ _ _) rfl rfl) ?_
         refine l_q (q_assign (v := .slice _ _ _) rfl rfl) ?_
         refine l_nil (r_inBlock (r_region' ?_))
         refine l_q (q_move (v := .int _ _) rfl rfl) ?_
         refine l_q (q_add rfl rfl (by omega) rfl) ?_
         refine l_q (q_assign (v := .int _ _) rfl rfl) ?_
         refine l_nil ?_
         exact ih4 (n + 1, ra, rc, R) _ _ ⟨⟨rfl, rfl, rfl, rfl, (vint_eq (by omega)), trivial⟩, (by omega), (by first | exact best_take hB2 hNm hg1 hg2 | exact best_keep hB2 hNm hg1 hg2), (by first | exact ⟨hRl, hRx⟩ | exact hBx), hN, hNr, hb1, hsz, hB⟩ (by first | omega | (dsimp only; omega))
        ·
         have hg2 := hc25
         refine r_skip (r_inBlock (r_region' ?_))
         refine l_q (q_move (v := .int _ _) rfl rfl) ?_
         refine l_q (q_add rfl rfl (by omega) rfl) ?_
         refine l_q (q_assign (v := .int _ _) rfl rfl) ?_
         refine l_nil ?_
         exact ih4 (n + 1, ba, bc, B) _ _ ⟨⟨rfl, rfl, rfl, rfl, (vint_eq (by omega)), trivial⟩, (by omega), (by first | exact best_take hB2 hNm hg1 hg2 | exact best_keep hB2 hNm hg1 hg2), (by first | exact ⟨hRl, hRx⟩ | exact hBx), hBw, hBr, hb1, hsz, hB⟩ (by first | omega | (dsimp only; omega))
       ·
        have hg1 : (fineB (R.map (·.xs)) (B.map (·.xs)) && (R.map (·.xs)).all (inS so)) = false := by rw [← hgt]; exact hc22
        have hg2 := True.intro
        refine l_q (q_skip rfl) ?_
        refine l_q (q_skip rfl) ?_
        refine l_q (q_skip rfl) ?_
        refine l_q (q_pick_f (v := .bool _) rfl rfl rfl) ?_
        refine l_nil ?_
        refine r_forget [(1, .int _ _), (2, .pointer _), (6, .slice _ _ _), (7, .int _ _), (8, .int _ _), (9, .slice _ _ _), (90, .bool _)] ⟨rfl, rfl, rfl, rfl, rfl, rfl, rfl, trivial⟩ (fun e26 => ?_)
        refine r_cond_f rfl ?_
        refine r_skip (r_inBlock (r_region' ?_))
        refine l_q (q_move (v := .int _ _) rfl rfl) ?_
        refine l_q (q_add rfl rfl (by omega) rfl) ?_
        refine l_q (q_assign (v := .int _ _) rfl rfl) ?_
        refine l_nil ?_
        exact ih4 (n + 1, ba, bc, B) _ _ ⟨⟨rfl, rfl, rfl, rfl, (vint_eq (by omega)), trivial⟩, (by omega), (by first | exact best_take hB2 hNm hg1 hg2 | exact best_keep hB2 hNm hg1 hg2), (by first | exact ⟨hRl, hRx⟩ | exact hBx), hBw, hBr, hb1, hsz, hB⟩ (by first | omega | (dsimp only; omega))
     ·
      replace hc11 := dlt hc11
      have hgt : f = (fineB (R.map (·.xs)) (B.map (·.xs)) && (R.map (·.xs)).all (inS so)) := by rw [hf, List.take_of_length_le (by rw [List.length_map]; omega)]
      refine l_q (q_skip rfl) ?_
      refine l_q (q_pick_f (v := .bool _) rfl rfl rfl) ?_
      refine l_nil ?_
      refine r_cond_f rfl ?_
      refine r_exit rfl ?_
      refine r_seq (r_region' ?_)
      refine l_q (q_move (v := .bool _) rfl rfl) ?_
      refine l_q (q_move (v := .bool _) rfl rfl) ?_
      refine l_part 86 rfl (fun hc27 => ?_) (fun hc27 => ?_)
      ·
       have hg1 : (fineB (R.map (·.xs)) (B.map (·.xs)) && (R.map (·.xs)).all (inS so)) = true := by rw [← hgt]; exact hc27
       refine l_q (q_load_agg (n := 3) Tryz.isAgg26 Tryz.sizeOf26 rfl ((hb1.cells' (cs' := [_, _, _]) 0 3 rfl)) rfl rfl) ?_
       refine l_q (q_move (v := .slice _ _ _) rfl rfl) ?_
       refine l_o (o_call Tryz.call52 rfl (safe10_ret na nc nd pa pc pl ca cc L _ _ R _ (hpo.below hB) hok hN hNr hRl hRx (by omega) (fun s hs => (hNx.2 s hs).2)) rfl ?_)
       rintro _ w28 ⟨rfl, hE28⟩
       replace hB := below_ext hB hE28 hsz
       replace hb1 := hb1.ext hE28
       replace hBw := hBw.ext hE28
       replace hBr := hBr.ext hE28
       replace hN := hN.ext hE28
       replace hNr := hNr.ext hE28
       replace hsz := Nat.le_trans hsz hE28.size
       refine l_q (q_pick_t (v := .bool _) rfl rfl rfl) ?_
       refine l_nil ?_
       refine r_forget [(1, .int _ _), (2, .pointer _), (6, .slice _ _ _), (7, .int _ _), (8, .int _ _), (9, .slice _ _ _), (90, .bool _)] ⟨rfl, rfl, rfl, rfl, rfl, rfl, rfl, trivial⟩ (fun e29 => ?_)
       refine r_cond rfl (fun hc30 => ?_) (fun hc30 => ?_)
       ·
        have hg2 := hc30
        refine r_region' ?_
        refine l_q (q_move (v := .slice _ _ _) rfl rfl) ?_
        refine l_q (q_assign (v := .slice _ _ _) rfl rfl) ?_
        refine l_nil (r_inBlock (r_region' ?_))
        refine l_q (q_move (v := .int _ _) rfl rfl) ?_
        refine l_q (q_add rfl rfl (by omega) rfl) ?_
        refine l_q (q_assign (v := .int _ _) rfl rfl) ?_
        refine l_nil ?_
        exact ih4 (n + 1, ra, rc, R) _ _ ⟨⟨rfl, rfl, rfl, rfl, (vint_eq (by omega)), trivial⟩, (by omega), (by first | exact best_take hB2 hNm hg1 hg2 | exact best_keep hB2 hNm hg1 hg2), (by first | exact ⟨hRl, hRx⟩ | exact hBx), hN, hNr, hb1, hsz, hB⟩ (by first | omega | (dsimp only; omega))
       ·
        have hg2 := hc30
        refine r_skip (r_inBlock (r_region' ?_))
        refine l_q (q_move (v := .int _ _) rfl rfl) ?_
        refine l_q (q_add rfl rfl (by omega) rfl) ?_
        refine l_q (q_assign (v := .int _ _) rfl rfl) ?_
        refine l_nil ?_
        exact ih4 (n + 1, ba, bc, B) _ _ ⟨⟨rfl, rfl, rfl, rfl, (vint_eq (by omega)), trivial⟩, (by omega), (by first | exact best_take hB2 hNm hg1 hg2 | exact best_keep hB2 hNm hg1 hg2), (by first | exact ⟨hRl, hRx⟩ | exact hBx), hBw, hBr, hb1, hsz, hB⟩ (by first | omega | (dsimp only; omega))
      ·
       have hg1 : (fineB (R.map (·.xs)) (B.map (·.xs)) && (R.map (·.xs)).all (inS so)) = false := by rw [← hgt]; exact hc27
       have hg2 := True.intro
       refine l_q (q_skip rfl) ?_
       refine l_q (q_skip rfl) ?_
       refine l_q (q_skip rfl) ?_
       refine l_q (q_pick_f (v := .bool _) rfl rfl rfl) ?_
       refine l_nil ?_
       refine r_forget [(1, .int _ _), (2, .pointer _), (6, .slice _ _ _), (7, .int _ _), (8, .int _ _), (9, .slice _ _ _), (90, .bool _)] ⟨rfl, rfl, rfl, rfl, rfl, rfl, rfl, trivial⟩ (fun e31 => ?_)
       refine r_cond_f rfl ?_
       refine r_skip (r_inBlock (r_region' ?_))
       refine l_q (q_move (v := .int _ _) rfl rfl) ?_
       refine l_q (q_add rfl rfl (by omega) rfl) ?_
       refine l_q (q_assign (v := .int _ _) rfl rfl) ?_
       refine l_nil ?_
       exact ih4 (n + 1, ba, bc, B) _ _ ⟨⟨rfl, rfl, rfl, rfl, (vint_eq (by omega)), trivial⟩, (by omega), (by first | exact best_take hB2 hNm hg1 hg2 | exact best_keep hB2 hNm hg1 hg2), (by first | exact ⟨hRl, hRx⟩ | exact hBx), hBw, hBr, hb1, hsz, hB⟩ (by first | omega | (dsimp only; omega))
   ·
    replace hc7 := df hc7
    have g33 := hc7
    refine l_q (q_move (v := .slice _ _ _) rfl rfl) ?_
    refine l_o (o_call Tryz.call53 rfl (duties10_ret _ _ R _ hN hNr (by omega) hRx) rfl ?_)
    rintro _ w32 ⟨rfl, hE32⟩
    replace hB := below_ext hB hE32 hsz
    replace hb1 := hb1.ext hE32
    replace hBw := hBw.ext hE32
    replace hBr := hBr.ext hE32
    replace hN := hN.ext hE32
    replace hNr := hNr.ext hE32
    replace hsz := Nat.le_trans hsz hE32.size
    refine l_q (q_move (v := .slice _ _ _) rfl rfl) ?_
    refine l_o (o_call Tryz.call53 rfl (duties10_ret _ _ B _ hBw hBr (by omega) hBx.2) rfl ?_)
    rintro _ w33 ⟨rfl, hE33⟩
    replace hB := below_ext hB hE33 hsz
    replace hb1 := hb1.ext hE33
    replace hBw := hBw.ext hE33
    replace hBr := hBr.ext hE33
    replace hN := hN.ext hE33
    replace hNr := hNr.ext hE33
    replace hsz := Nat.le_trans hsz hE33.size
    refine l_q (q_lss rfl rfl rfl) ?_
    refine l_q (q_pick_f (v := .bool _) rfl rfl rfl) ?_
    refine l_q (q_move (v := .bool _) rfl rfl) ?_
    refine l_part 40 rfl (fun hc34 => ?_) (fun hc34 => ?_)
    ·
     replace hc34 := dt hc34
     have g40 := hc34
     refine l_q (q_skip rfl) ?_
     refine l_q (q_skip rfl) ?_
     refine l_q (q_skip rfl) ?_
     refine l_q (q_skip rfl) ?_
     refine l_q (q_skip rfl) ?_
     refine l_q (q_skip rfl) ?_
     refine l_q (q_skip rfl) ?_
     refine l_q (q_skip rfl) ?_
     refine l_q (q_skip rfl) ?_
     refine l_q (q_skip rfl) ?_
     refine l_q (q_pick_t (v := .bool _) rfl rfl rfl) ?_
     refine l_q (q_assign (v := .bool _) rfl rfl) ?_
     refine l_nil ?_
     refine r_forget [(1, .int _ _), (2, .pointer _), (6, .slice _ _ _), (7, .int _ _), (8, .int _ _), (9, .slice _ _ _), (10, .bool _)] ⟨rfl, rfl, rfl, rfl, rfl, rfl, rfl, trivial⟩ (fun e35 => ?_)
     refine r_seq (r_seq ?_)
     have hf0 : true = fineB (R.map (·.xs)) (B.map (·.xs)) := by first | exact (fine_1 (by rw [List.length_map]; omega)).symm | exact (fine_2 (by omega)).symm | exact (fine_3 (by rw [List.length_map]; omega) (by omega)).symm | exact (fine_4 (by rw [List.length_map]; omega) (by omega) (by omega)).symm
     refine r_forget [(1, .int _ _), (2, .pointer _), (6, .slice _ _ _), (7, .int _ _), (8, .int _ _), (9, .slice _ _ _), (10, .bool (fineB (R.map (·.xs)) (B.map (·.xs))))] ⟨rfl, rfl, rfl, rfl, rfl, rfl, vbool_eq hf0, trivial⟩ (fun e36 => ?_)
     refine r_region' ?_
     refine l_q (q_assign (v := .int _ _) rfl rfl) ?_
     refine l_nil (r_block ?_)
     refine r_rounds (α := Nat × Bool) (fun ⟨i, f⟩ e wl => Knows e [(1, vint (so : Int)), (2, ptr b1 0), (6, .slice ba B.length bc), (7, vint (M : Int)), (8, vint (n : Int)), (9, .slice ra R.length rc), (10, .bool f), (11, vint (i : Int))] ∧ (i ≤ R.length) ∧ (f = (fineB (R.map (·.xs)) (B.map (·.xs)) && ((R.map (·.xs)).take i).all (inS so))) ∧ (Blk wl b1 [.slice na nd.length nc, .slice pa pl.length pc, .slice ca L.length cc]) ∧ (Row wl ba B.length bc 1 (B.map SV.enc)) ∧ (RowsI wl B) ∧ (Row wl ra R.length rc 1 (R.map SV.enc)) ∧ (RowsI wl R) ∧ (w.heap.size ≤ wl.heap.size) ∧ (Below w.heap.size w wl)) (fun ⟨i, f⟩ => R.length - i) (0, fineB (R.map (·.xs)) (B.map (·.xs))) ?_ ?_
     ·
      exact ⟨⟨rfl, rfl, rfl, rfl, rfl, rfl, (vbool_eq (by simp)), rfl, trivial⟩, (Nat.zero_le _), (by simp), hb1, hBw, hBr, hN, hNr, hsz, hB⟩
     ·
      rintro ⟨i, f⟩ el37 wl37 ⟨hkn, hi, hf, hb1, hBw, hBr, hN, hNr, hsz, hB⟩ ih37
      obtain ⟨e37, rfl⟩ := knows_env hkn
      refine r_seq (r_seq (r_region' ?_))
      refine l_q (q_move (v := .int _ _) rfl rfl) ?_
      refine l_q (q_move (v := .slice _ _ _) rfl rfl) ?_
      refine l_q (q_len rfl Tryz.underlying24 rfl rfl) ?_
      refine l_q (q_lss rfl rfl rfl) ?_
      refine l_q (q_move (v := .bool _) rfl rfl) ?_
      refine l_part 56 rfl (fun hc38 => ?_) (fun hc38 => ?_)
      ·
       replace hc38 := dt hc38
       have hiR : i < R.length := by omega
       have hix := hNx.2 _ (getD_lt (d := sv0) hiR)
       refine l_q (q_move (v := .bool _) rfl rfl) ?_
       refine l_q (q_pick_t (v := .bool _) rfl rfl rfl) ?_
       refine l_nil ?_
       refine r_cond rfl (fun hc39 => ?_) (fun hc39 => ?_)
       ·
        refine r_skip (r_seq (r_block (r_seq (r_region' ?_))))
        refine l_q (q_assign (v := .int _ _) rfl rfl) ?_
        refine l_nil (r_block ?_)
        refine r_rounds (α := Nat × Bool) (fun ⟨k, g⟩ e wl => Knows e [(1, vint (so : Int)), (2, ptr b1 0), (6, .slice ba B.length bc), (7, vint (M : Int)), (8, vint (n : Int)), (9, .slice ra R.length rc), (10, .bool g), (11, vint (i : Int)), (12, vint (k : Int))] ∧ (k ≤ (R.getD i sv0).xs.length) ∧ (g = (f && ((R.getD i sv0).xs.take k).all (inB so))) ∧ (Blk wl b1 [.slice na nd.length nc, .slice pa pl.length pc, .slice ca L.length cc]) ∧ (Row wl ba B.length bc 1 (B.map SV.enc)) ∧ (RowsI wl B) ∧ (Row wl ra R.length rc 1 (R.map SV.enc)) ∧ (RowsI wl R) ∧ (w.heap.size ≤ wl.heap.size) ∧ (Below w.heap.size w wl)) (fun ⟨k, g⟩ => (R.getD i sv0).xs.length - k) (0, f) ?_ ?_
        ·
         exact ⟨⟨rfl, rfl, rfl, rfl, rfl, rfl, rfl, rfl, rfl, trivial⟩, (Nat.zero_le _), (by simp), hb1, hBw, hBr, hN, hNr, hsz, hB⟩
        ·
         rintro ⟨k, g⟩ el40 wl40 ⟨hkn, hk, hg, hb1, hBw, hBr, hN, hNr, hsz, hB⟩ ih40
         obtain ⟨e40, rfl⟩ := knows_env hkn
         refine r_seq (r_seq (r_region' ?_))
         refine l_q (q_move (v := .int _ _) rfl rfl) ?_
         refine l_q (q_move (v := .slice _ _ _) rfl rfl) ?_
         refine l_q (q_move (v := .int _ _) rfl rfl) ?_
         obtain ⟨b41, o41, ha41, hh41⟩ := hN.at1 i ((R).getD i sv0) (getD_some (by omega))
         refine l_q (q_indexAddr1 Tryz.underlying24 Tryz.sizeOf22 rfl ha41 rfl (by omega) rfl) ?_
         refine l_q (q_load Tryz.isAgg22 rfl (hh41) rfl) ?_
         refine l_q (q_len rfl Tryz.underlying22 rfl rfl) ?_
         refine l_q (q_lss rfl rfl rfl) ?_
         refine l_nil ?_
         refine r_cond rfl (fun hc42 => ?_) (fun hc42 => ?_)
         ·
          replace hc42 := dt hc42
          have hkx : k < (R.getD i sv0).xs.length := by omega
          have hko := hix.2 _ (getD_lt (d := 0) hkx)
          obtain ⟨q, hq, hqn⟩ := shr_q2 so hko.1
          refine r_skip (r_seq (r_block (r_region' ?_)))
          refine l_q (q_move (v := .bool _) rfl rfl) ?_
          refine l_q (q_move (v := .bool _) rfl rfl) ?_
          refine l_part 71 rfl (fun hc43 => ?_) (fun hc43 => ?_)
          ·
           have gg := hc43
           refine l_q (q_move (v := .int _ _) rfl rfl) ?_
           refine l_q (q_move (v := .slice _ _ _) rfl rfl) ?_
           refine l_q (q_move (v := .int _ _) rfl rfl) ?_
           obtain ⟨b44, o44, ha44, hh44⟩ := hN.at1 i ((R).getD i sv0) (getD_some (by omega))
           refine l_q (q_indexAddr1 Tryz.underlying24 Tryz.sizeOf22 rfl ha44 rfl (by omega) rfl) ?_
           refine l_q (q_load Tryz.isAgg22 rfl (hh44) rfl) ?_
           refine l_q (q_move (v := .int _ _) rfl rfl) ?_
           obtain ⟨b45, o45, ha45, hh45⟩ := (RowsI.get (hNr) (i := i) (by omega)).at1 k ((((R).getD i sv0).xs).getD k 0) (getD_some (by omega))
           refine l_q (q_indexAddr1 Tryz.underlying22 Tryz.sizeOf3 rfl ha45 rfl (by omega) rfl) ?_
           refine l_q (q_load Tryz.isAgg3 rfl (hh45) rfl) ?_
           refine l_q (q_toUint Tryz.underlying3 Tryz.underlying75 rfl (by omega) rfl) ?_
           refine l_q (q_shr rfl rfl (⟨by omega, by omega⟩) rfl) ?_
           refine l_q (q_rem rfl rfl (by omega) rfl) ?_
           refine l_q (q_eql rfl rfl rfl) ?_
           refine l_q (q_pick_t (v := .bool _) rfl rfl rfl) ?_
           refine l_q (q_assign (v := .bool _) rfl rfl) ?_
           refine l_nil ?_
           refine r_forget [(1, .int _ _), (2, .pointer _), (6, .slice _ _ _), (7, .int _ _), (8, .int _ _), (9, .slice _ _ _), (10, .bool _), (11, .int _ _), (12, .int _ _)] ⟨rfl, rfl, rfl, rfl, rfl, rfl, rfl, rfl, rfl, trivial⟩ (fun e46 => ?_)
           refine r_inBlock (r_region' ?_)
           refine l_q (q_move (v := .int _ _) rfl rfl) ?_
           refine l_q (q_add rfl rfl (by omega) rfl) ?_
           refine l_q (q_assign (v := .int _ _) rfl rfl) ?_
           refine l_nil ?_
           exact ih40 (k + 1, (decide ((((so : Int) / 2 ^ (((((R).getD i sv0).xs).getD k 0).toNat)) % 2) = 1))) _ _ ⟨⟨rfl, rfl, rfl, rfl, rfl, rfl, rfl, rfl, (vint_eq (by omega)), trivial⟩, (by omega), (by rw [← inb_next hkx, ← hg]; first | (rw [gg, Bool.true_and]; unfold inB; rw [decide_eq_decide, ← hqn]; omega) | (rw [gg]; rfl)), hb1, hBw, hBr, hN, hNr, hsz, hB⟩ (by first | omega | (dsimp only; omega))
          ·
           have gg := hc43
           refine l_q (q_skip rfl) ?_
           refine l_q (q_skip rfl) ?_
           refine l_q (q_skip rfl) ?_
           refine l_q (q_skip rfl) ?_
           refine l_q (q_skip rfl) ?_
           refine l_q (q_skip rfl) ?_
           refine l_q (q_skip rfl) ?_
           refine l_q (q_skip rfl) ?_
           refine l_q (q_skip rfl) ?_
           refine l_q (q_skip rfl) ?_
           refine l_q (q_skip rfl) ?_
           refine l_q (q_skip rfl) ?_
           refine l_q (q_pick_f (v := .bool _) rfl rfl rfl) ?_
           refine l_q (q_assign (v := .bool _) rfl rfl) ?_
           refine l_nil ?_
           refine r_forget [(1, .int _ _), (2, .pointer _), (6, .slice _ _ _), (7, .int _ _), (8, .int _ _), (9, .slice _ _ _), (10, .bool _), (11, .int _ _), (12, .int _ _)] ⟨rfl, rfl, rfl, rfl, rfl, rfl, rfl, rfl, rfl, trivial⟩ (fun e47 => ?_)
           refine r_inBlock (r_region' ?_)
           refine l_q (q_move (v := .int _ _) rfl rfl) ?_
           refine l_q (q_add rfl rfl (by omega) rfl) ?_
           refine l_q (q_assign (v := .int _ _) rfl rfl) ?_
           refine l_nil ?_
           exact ih40 (k + 1, false) _ _ ⟨⟨rfl, rfl, rfl, rfl, rfl, rfl, rfl, rfl, (vint_eq (by omega)), trivial⟩, (by omega), (by rw [← inb_next hkx, ← hg]; first | (rw [gg, Bool.true_and]; unfold inB; rw [decide_eq_decide, ← hqn]; omega) | (rw [gg]; rfl)), hb1, hBw, hBr, hN, hNr, hsz, hB⟩ (by first | omega | (dsimp only; omega))
         ·
          replace hc42 := dlt hc42
          refine r_exit rfl ?_
          refine r_inBlock (r_region' ?_)
          refine l_q (q_move (v := .int _ _) rfl rfl) ?_
          refine l_q (q_add rfl rfl (by omega) rfl) ?_
          refine l_q (q_assign (v := .int _ _) rfl rfl) ?_
          refine l_nil ?_
          refine r_forget [(1, .int _ _), (2, .pointer _), (6, .slice _ _ _), (7, .int _ _), (8, .int _ _), (9, .slice _ _ _), (10, .bool _), (11, .int _ _)] ⟨rfl, rfl, rfl, rfl, rfl, rfl, rfl, rfl, trivial⟩ (fun e48 => ?_)
          exact ih37 (i + 1, g) _ _ ⟨⟨rfl, rfl, rfl, rfl, rfl, rfl, rfl, (vint_eq (by omega)), trivial⟩, (by omega), (by rw [hg, hf]; exact ins_next hiR (by omega)), hb1, hBw, hBr, hN, hNr, hsz, hB⟩ (by first | omega | (dsimp only; omega))
       ·
        have hff := hc39
        have hgt : f = (fineB (R.map (·.xs)) (B.map (·.xs)) && (R.map (·.xs)).all (inS so)) := by rw [hff] at hf ⊢; exact ins_stop hf
        refine r_exit rfl ?_
        refine r_seq (r_region' ?_)
        refine l_q (q_move (v := .bool _) rfl rfl) ?_
        refine l_q (q_move (v := .bool _) rfl rfl) ?_
        refine l_part 86 rfl (fun hc49 => ?_) (fun hc49 => ?_)
        ·
         have hg1 : (fineB (R.map (·.xs)) (B.map (·.xs)) && (R.map (·.xs)).all (inS so)) = true := by rw [← hgt]; exact hc49
         refine l_q (q_load_agg (n := 3) Tryz.isAgg26 Tryz.sizeOf26 rfl ((hb1.cells' (cs' := [_, _, _]) 0 3 rfl)) rfl rfl) ?_
         refine l_q (q_move (v := .slice _ _ _) rfl rfl) ?_
         refine l_o (o_call Tryz.call52 rfl (safe10_ret na nc nd pa pc pl ca cc L _ _ R _ (hpo.below hB) hok hN hNr hRl hRx (by omega) (fun s hs => (hNx.2 s hs).2)) rfl ?_)
         rintro _ w50 ⟨rfl, hE50⟩
         replace hB := below_ext hB hE50 hsz
         replace hb1 := hb1.ext hE50
         replace hBw := hBw.ext hE50
         replace hBr := hBr.ext hE50
         replace hN := hN.ext hE50
         replace hNr := hNr.ext hE50
         replace hsz := Nat.le_trans hsz hE50.size
         refine l_q (q_pick_t (v := .bool _) rfl rfl rfl) ?_
         refine l_nil ?_
         refine r_forget [(1, .int _ _), (2, .pointer _), (6, .slice _ _ _), (7, .int _ _), (8, .int _ _), (9, .slice _ _ _), (90, .bool _)] ⟨rfl, rfl, rfl, rfl, rfl, rfl, rfl, trivial⟩ (fun e51 => ?_)
         refine r_cond rfl (fun hc52 => ?_) (fun hc52 => ?_)
         ·
          have hg2 := hc52
          refine r_region' ?_
          refine l_q (q_move (v := .slice _ _ _) rfl rfl) ?_
          refine l_q (q_assign (v := .slice _ _ _) rfl rfl) ?_
          refine l_nil (r_inBlock (r_region' ?_))
          refine l_q (q_move (v := .int _ _) rfl rfl) ?_
          refine l_q (q_add rfl rfl (by omega) rfl) ?_
          refine l_q (q_assign (v := .int _ _) rfl rfl) ?_
          refine l_nil ?_
          exact ih4 (n + 1, ra, rc, R) _ _ ⟨⟨rfl, rfl, rfl, rfl, (vint_eq (by omega)), trivial⟩, (by omega), (by first | exact best_take hB2 hNm hg1 hg2 | exact best_keep hB2 hNm hg1 hg2), (by first | exact ⟨hRl, hRx⟩ | exact hBx), hN, hNr, hb1, hsz, hB⟩ (by first | omega | (dsimp only; omega))
         ·
          have hg2 := hc52
          refine r_skip (r_inBlock (r_region' ?_))
          refine l_q (q_move (v := .int _ _) rfl rfl) ?_
          refine l_q (q_add rfl rfl (by omega) rfl) ?_
          refine l_q (q_assign (v := .int _ _) rfl rfl) ?_
          refine l_nil ?_
          exact ih4 (n + 1, ba, bc, B) _ _ ⟨⟨rfl, rfl, rfl, rfl, (vint_eq (by omega)), trivial⟩, (by omega), (by first | exact best_take hB2 hNm hg1 hg2 | exact best_keep hB2 hNm hg1 hg2), (by first | exact ⟨hRl, hRx⟩ | exact hBx), hBw, hBr, hb1, hsz, hB⟩ (by first | omega | (dsimp only; omega))
        ·
         have hg1 : (fineB (R.map (·.xs)) (B.map (·.xs)) && (R.map (·.xs)).all (inS so)) = false := by rw [← hgt]; exact hc49
         have hg2 := True.intro
         refine l_q (q_skip rfl) ?_
         refine l_q (q_skip rfl) ?_
         refine l_q (q_skip rfl) ?_
         refine l_q (q_pick_f (v := .bool _) rfl rfl rfl) ?_
         refine l_nil ?_
         refine r_forget [(1, .int _ _), (2, .pointer _), (6, .slice _ _ _), (7, .int _ _), (8, .int _ _), (9, .slice _ _ _), (90, .bool _)] ⟨rfl, rfl, rfl, rfl, rfl, rfl, rfl, trivial⟩ (fun e53 => ?_)
         refine r_cond_f rfl ?_
         refine r_skip (r_inBlock (r_region' ?_))
         refine l_q (q_move (v := .int _ _) rfl rfl) ?_
         refine l_q (q_add rfl rfl (by omega) rfl) ?_
         refine l_q (q_assign (v := .int _ _) rfl rfl) ?_
         refine l_nil ?_
         exact ih4 (n + 1, ba, bc, B) _ _ ⟨⟨rfl, rfl, rfl, rfl, (vint_eq (by omega)), trivial⟩, (by omega), (by first | exact best_take hB2 hNm hg1 hg2 | exact best_keep hB2 hNm hg1 hg2), (by first | exact ⟨hRl, hRx⟩ | exact hBx), hBw, hBr, hb1, hsz, hB⟩ (by first | omega | (dsimp only; omega))
      ·
       replace hc38 := dlt hc38
       have hgt : f = (fineB (R.map (·.xs)) (B.map (·.xs)) && (R.map (·.xs)).all (inS so)) := by rw [hf, List.take_of_length_le (by rw [List.length_map]; omega)]
       refine l_q (q_skip rfl) ?_
       refine l_q (q_pick_f (v := .bool _) rfl rfl rfl) ?_
       refine l_nil ?_
       refine r_cond_f rfl ?_
       refine r_exit rfl ?_
       refine r_seq (r_region' ?_)
       refine l_q (q_move (v := .bool _) rfl rfl) ?_
       refine l_q (q_move (v := .bool _) rfl rfl) ?_
       refine l_part 86 rfl (fun hc54 => ?_) (fun hc54 => ?_)
       ·
        have hg1 : (fineB (R.map (·.xs)) (B.map (·.xs)) && (R.map (·.xs)).all (inS so)) = true := by rw [← hgt]; exact hc54
        refine l_q (q_load_agg (n := 3) Tryz.isAgg26 Tryz.sizeOf26 rfl ((hb1.cells' (cs' := [_, _, _]) 0 3 rfl)) rfl rfl) ?_
        refine l_q (q_move (v := .slice _ _ _) rfl rfl) ?_
        refine l_o (o_call Tryz.call52 rfl (safe10_ret na nc nd pa pc pl ca cc L _ _ R _ (hpo.below hB) hok hN hNr hRl hRx (by omega) (fun s hs => (hNx.2 s hs).2)) rfl ?_)
        rintro _ w55 ⟨rfl, hE55⟩
        replace hB := below_ext hB hE55 hsz
        replace hb1 := hb1.ext hE55
        replace hBw := hBw.ext hE55
        replace hBr := hBr.ext hE55
        replace hN := hN.ext hE55
        replace hNr := hNr.ext hE55
        replace hsz := Nat.le_trans hsz hE55.size
        refine l_q (q_pick_t (v := .bool _) rfl rfl rfl) ?_
        refine l_nil ?_
        refine r_forget [(1, .int _ _), (2, .pointer _), (6, .slice _ _ _), (7, .int _ _), (8, .int _ _), (9, .slice _ _ _), (90, .bool _)] ⟨rfl, rfl, rfl, rfl, rfl, rfl, rfl, trivial⟩ (fun e56 => ?_)
        refine r_cond rfl (fun hc57 => ?_) (fun hc57 => ?_)
        ·
         have hg2 := hc57
         refine r_region' ?_
         refine l_q (q_move (v := .slice _ _ _) rfl rfl) ?_
         refine l_q (q_assign (v := .slice _ _ _) rfl rfl) ?_
         refine l_nil (r_inBlock (r_region' ?_))
         refine l_q (q_move (v := .int _ _) rfl rfl) ?_
         refine l_q (q_add rfl rfl (by omega) rfl) ?_
         refine l_q (q_assign (v := .int _ _) rfl rfl) ?_
         refine l_nil ?_
         exact ih4 (n + 1, ra, rc, R) _ _ ⟨⟨rfl, rfl, rfl, rfl, (vint_eq (by omega)), trivial⟩, (by omega), (by first | exact best_take hB2 hNm hg1 hg2 | exact best_keep hB2 hNm hg1 hg2), (by first | exact ⟨hRl, hRx⟩ | exact hBx), hN, hNr, hb1, hsz, hB⟩ (by first | omega | (dsimp only; omega))
        ·
         have hg2 := hc57
         refine r_skip (r_inBlock (r_region' ?_))
         refine l_q (q_move (v := .int _ _) rfl rfl) ?_
         refine l_q (q_add rfl rfl (by omega) rfl) ?_
         refine l_q (q_assign (v := .int _ _) rfl rfl) ?_
         refine l_nil ?_
         exact ih4 (n + 1, ba, bc, B) _ _ ⟨⟨rfl, rfl, rfl, rfl, (vint_eq (by omega)), trivial⟩, (by omega), (by first | exact best_take hB2 hNm hg1 hg2 | exact best_keep hB2 hNm hg1 hg2), (by first | exact ⟨hRl, hRx⟩ | exact hBx), hBw, hBr, hb1, hsz, hB⟩ (by first | omega | (dsimp only; omega))
       ·
        have hg1 : (fineB (R.map (·.xs)) (B.map (·.xs)) && (R.map (·.xs)).all (inS so)) = false := by rw [← hgt]; exact hc54
        have hg2 := True.intro
        refine l_q (q_skip rfl) ?_
        refine l_q (q_skip rfl) ?_
        refine l_q (q_skip rfl) ?_
        refine l_q (q_pick_f (v := .bool _) rfl rfl rfl) ?_
        refine l_nil ?_
        refine r_forget [(1, .int _ _), (2, .pointer _), (6, .slice _ _ _), (7, .int _ _), (8, .int _ _), (9, .slice _ _ _), (90, .bool _)] ⟨rfl, rfl, rfl, rfl, rfl, rfl, rfl, trivial⟩ (fun e58 => ?_)
        refine r_cond_f rfl ?_
        refine r_skip (r_inBlock (r_region' ?_))
        refine l_q (q_move (v := .int _ _) rfl rfl) ?_
        refine l_q (q_add rfl rfl (by omega) rfl) ?_
        refine l_q (q_assign (v := .int _ _) rfl rfl) ?_
        refine l_nil ?_
        exact ih4 (n + 1, ba, bc, B) _ _ ⟨⟨rfl, rfl, rfl, rfl, (vint_eq (by omega)), trivial⟩, (by omega), (by first | exact best_take hB2 hNm hg1 hg2 | exact best_keep hB2 hNm hg1 hg2), (by first | exact ⟨hRl, hRx⟩ | exact hBx), hBw, hBr, hb1, hsz, hB⟩ (by first | omega | (dsimp only; omega))
    ·
     replace hc34 := dlt hc34
     have g40 := hc34
     refine l_q (q_move (v := .slice _ _ _) rfl rfl) ?_
     refine l_o (o_call Tryz.call53 rfl (duties10_ret _ _ R _ hN hNr (by omega) hRx) rfl ?_)
     rintro _ w59 ⟨rfl, hE59⟩
     replace hB := below_ext hB hE59 hsz
     replace hb1 := hb1.ext hE59
     replace hBw := hBw.ext hE59
     replace hBr := hBr.ext hE59
     replace hN := hN.ext hE59
     replace hNr := hNr.ext hE59
     replace hsz := Nat.le_trans hsz hE59.size
     refine l_q (q_move (v := .slice _ _ _) rfl rfl) ?_
     refine l_o (o_call Tryz.call53 rfl (duties10_ret _ _ B _ hBw hBr (by omega) hBx.2) rfl ?_)
     rintro _ w60 ⟨rfl, hE60⟩
     replace hB := below_ext hB hE60 hsz
     replace hb1 := hb1.ext hE60
     replace hBw := hBw.ext hE60
     replace hBr := hBr.ext hE60
     replace hN := hN.ext hE60
     replace hNr := hNr.ext hE60
     replace hsz := Nat.le_trans hsz hE60.size
     refine l_q (q_eql rfl rfl rfl) ?_
     refine l_q (q_move (v := .bool _) rfl rfl) ?_
     refine l_part 46 rfl (fun hc61 => ?_) (fun hc61 => ?_)
     ·
      replace hc61 := dt hc61
      have g46 := hc61
      refine l_q (q_move (v := .slice _ _ _) rfl rfl) ?_
      refine l_q (q_move (v := .slice _ _ _) rfl rfl) ?_
      refine l_o (o_call Tryz.call57 rfl (smaller10_ret _ _ R _ _ B _ hN hNr hRl hRx hBw hBr hBx.1 hBx.2) rfl ?_)
      rintro _ w62 ⟨rfl, hE62⟩
      replace hB := below_ext hB hE62 hsz
      replace hb1 := hb1.ext hE62
      replace hBw := hBw.ext hE62
      replace hBr := hBr.ext hE62
      replace hN := hN.ext hE62
      replace hNr := hNr.ext hE62
      replace hsz := Nat.le_trans hsz hE62.size
      refine l_q (q_pick_t (v := .bool _) rfl rfl rfl) ?_
      refine l_q (q_pick_f (v := .bool _) rfl rfl rfl) ?_
      refine l_q (q_assign (v := .bool _) rfl rfl) ?_
      refine l_nil ?_
      refine r_forget [(1, .int _ _), (2, .pointer _), (6, .slice _ _ _), (7, .int _ _), (8, .int _ _), (9, .slice _ _ _), (10, .bool _)] ⟨rfl, rfl, rfl, rfl, rfl, rfl, rfl, trivial⟩ (fun e63 => ?_)
      refine r_seq (r_seq ?_)
      have hf0 : (smB (R.map (·.xs)) (B.map (·.xs))) = fineB (R.map (·.xs)) (B.map (·.xs)) := by first | exact (fine_1 (by rw [List.length_map]; omega)).symm | exact (fine_2 (by omega)).symm | exact (fine_3 (by rw [List.length_map]; omega) (by omega)).symm | exact (fine_4 (by rw [List.length_map]; omega) (by omega) (by omega)).symm
      refine r_forget [(1, .int _ _), (2, .pointer _), (6, .slice _ _ _), (7, .int _ _), (8, .int _ _), (9, .slice _ _ _), (10, .bool (fineB (R.map (·.xs)) (B.map (·.xs))))] ⟨rfl, rfl, rfl, rfl, rfl, rfl, vbool_eq hf0, trivial⟩ (fun e64 => ?_)
      refine r_region' ?_
      refine l_q (q_assign (v := .int _ _) rfl rfl) ?_
      refine l_nil (r_block ?_)
      refine r_rounds (α := Nat × Bool) (fun ⟨i, f⟩ e wl => Knows e [(1, vint (so : Int)), (2, ptr b1 0), (6, .slice ba B.length bc), (7, vint (M : Int)), (8, vint (n : Int)), (9, .slice ra R.length rc), (10, .bool f), (11, vint (i : Int))] ∧ (i ≤ R.length) ∧ (f = (fineB (R.map (·.xs)) (B.map (·.xs)) && ((R.map (·.xs)).take i).all (inS so))) ∧ (Blk wl b1 [.slice na nd.length nc, .slice pa pl.length pc, .slice ca L.length cc]) ∧ (Row wl ba B.length bc 1 (B.map SV.enc)) ∧ (RowsI wl B) ∧ (Row wl ra R.length rc 1 (R.map SV.enc)) ∧ (RowsI wl R) ∧ (w.heap.size ≤ wl.heap.size) ∧ (Below w.heap.size w wl)) (fun ⟨i, f⟩ => R.length - i) (0, fineB (R.map (·.xs)) (B.map (·.xs))) ?_ ?_
      ·
       exact ⟨⟨rfl, rfl, rfl, rfl, rfl, rfl, (vbool_eq (by simp)), rfl, trivial⟩, (Nat.zero_le _), (by simp), hb1, hBw, hBr, hN, hNr, hsz, hB⟩
      ·
       rintro ⟨i, f⟩ el65 wl65 ⟨hkn, hi, hf, hb1, hBw, hBr, hN, hNr, hsz, hB⟩ ih65
       obtain ⟨e65, rfl⟩ := knows_env hkn
       refine r_seq (r_seq (r_region' ?_))
       refine l_q (q_move (v := .int _ _) rfl rfl) ?_
       refine l_q (q_move (v := .slice _ _ _) rfl rfl) ?_
       refine l_q (q_len rfl Tryz.underlying24 rfl rfl) ?_
       refine l_q (q_lss rfl rfl rfl) ?_
       refine l_q (q_move (v := .bool _) rfl rfl) ?_
       refine l_part 56 rfl (fun hc66 => ?_) (fun hc66 => ?_)
       ·
        replace hc66 := dt hc66
        have hiR : i < R.length := by omega
        have hix := hNx.2 _ (getD_lt (d := sv0) hiR)
        refine l_q (q_move (v := .bool _) rfl rfl) ?_
        refine l_q (q_pick_t (v := .bool _) rfl rfl rfl) ?_
        refine l_nil ?_
        refine r_cond rfl (fun hc67 => ?_) (fun hc67 => ?_)
        ·
         refine r_skip (r_seq (r_block (r_seq (r_region' ?_))))
         refine l_q (q_assign (v := .int _ _) rfl rfl) ?_
         refine l_nil (r_block ?_)
         refine r_rounds (α := Nat × Bool) (fun ⟨k, g⟩ e wl => Knows e [(1, vint (so : Int)), (2, ptr b1 0), (6, .slice ba B.length bc), (7, vint (M : Int)), (8, vint (n : Int)), (9, .slice ra R.length rc), (10, .bool g), (11, vint (i : Int)), (12, vint (k : Int))] ∧ (k ≤ (R.getD i sv0).xs.length) ∧ (g = (f && ((R.getD i sv0).xs.take k).all (inB so))) ∧ (Blk wl b1 [.slice na nd.length nc, .slice pa pl.length pc, .slice ca L.length cc]) ∧ (Row wl ba B.length bc 1 (B.map SV.enc)) ∧ (RowsI wl B) ∧ (Row wl ra R.length rc 1 (R.map SV.enc)) ∧ (RowsI wl R) ∧ (w.heap.size ≤ wl.heap.size) ∧ (Below w.heap.size w wl)) (fun ⟨k, g⟩ => (R.getD i sv0).xs.length - k) (0, f) ?_ ?_
         ·
          exact ⟨⟨rfl, rfl, rfl, rfl, rfl, rfl, rfl, rfl, rfl, trivial⟩, (Nat.zero_le _), (by simp), hb1, hBw, hBr, hN, hNr, hsz, hB⟩
         ·
          rintro ⟨k, g⟩ el68 wl68 ⟨hkn, hk, hg, hb1, hBw, hBr, hN, hNr, hsz, hB⟩ ih68
          obtain ⟨e68, rfl⟩ := knows_env hkn
          refine r_seq (r_seq (r_region' ?_))
          refine l_q (q_move (v := .int _ _) rfl rfl) ?_
          refine l_q (q_move (v := .slice _ _ _) rfl rfl) ?_
          refine l_q (q_move (v := .int _ _) rfl rfl) ?_
          obtain ⟨b69, o69, ha69, hh69⟩ := hN.at1 i ((R).getD i sv0) (getD_some (by omega))
          refine l_q (q_indexAddr1 Tryz.underlying24 Tryz.sizeOf22 rfl ha69 rfl (by omega) rfl) ?_
          refine l_q (q_load Tryz.isAgg22 rfl (hh69) rfl) ?_
          refine l_q (q_len rfl Tryz.underlying22 rfl rfl) ?_
          refine l_q (q_lss rfl rfl rfl) ?_
          refine l_nil ?_
          refine r_cond rfl (fun hc70 => ?_) (fun hc70 => ?_)
          ·
           replace hc70 := dt hc70
           have hkx : k < (R.getD i sv0).xs.length := by omega
           have hko := hix.2 _ (getD_lt (d := 0) hkx)
           obtain ⟨q, hq, hqn⟩ := shr_q2 so hko.1
           refine r_skip (r_seq (r_block (r_region' ?_)))
           refine l_q (q_move (v := .bool _) rfl rfl) ?_
           refine l_q (q_move (v := .bool _) rfl rfl) ?_
           refine l_part 71 rfl (fun hc71 => ?_) (fun hc71 => ?_)
           ·
            have gg := hc71
            refine l_q (q_move (v := .int _ _) rfl rfl) ?_
            refine l_q (q_move (v := .slice _ _ _) rfl rfl) ?_
            refine l_q (q_move (v := .int _ _) rfl rfl) ?_
            obtain ⟨b72, o72, ha72, hh72⟩ := hN.at1 i ((R).getD i sv0) (getD_some (by omega))
            refine l_q (q_indexAddr1 Tryz.underlying24 Tryz.sizeOf22 rfl ha72 rfl (by omega) rfl) ?_
            refine l_q (q_load Tryz.isAgg22 rfl (hh72) rfl) ?_
            refine l_q (q_move (v := .int _ _) rfl rfl) ?_
            obtain ⟨b73, o73, ha73, hh73⟩ := (RowsI.get (hNr) (i := i) (by omega)).at1 k ((((R).getD i sv0).xs).getD k 0) (getD_some (by omega))
            refine l_q (q_indexAddr1 Tryz.underlying22 Tryz.sizeOf3 rfl ha73 rfl (by omega) rfl) ?_
            refine l_q (q_load Tryz.isAgg3 rfl (hh73) rfl) ?_
            refine l_q (q_toUint Tryz.underlying3 Tryz.underlying75 rfl (by omega) rfl) ?_
            refine l_q (q_shr rfl rfl (⟨by omega, by omega⟩) rfl) ?_
            refine l_q (q_rem rfl rfl (by omega) rfl) ?_
            refine l_q (q_eql rfl rfl rfl) ?_
            refine l_q (q_pick_t (v := .bool _) rfl rfl rfl) ?_
            refine l_q (q_assign (v := .bool _) rfl rfl) ?_
            refine l_nil ?_
            refine r_forget [(1, .int _ _), (2, .pointer _), (6, .slice _ _ _), (7, .int _ _), (8, .int _ _), (9, .slice _ _ _), (10, .bool _), (11, .int _ _), (12, .int _ _)] ⟨rfl, rfl, rfl, rfl, rfl, rfl, rfl, rfl, rfl, trivial⟩ (fun e74 => ?_)
            refine r_inBlock (r_region' ?_)
            refine l_q (q_move (v := .int _ _) rfl rfl) ?_
            refine l_q (q_add rfl rfl (by omega) rfl) ?_
            refine l_q (q_assign (v := .int _ _) rfl rfl) ?_
            refine l_nil ?_
            exact ih68 (k + 1, (decide ((((so : Int) / 2 ^ (((((R).getD i sv0).xs).getD k 0).toNat)) % 2) = 1))) _ _ ⟨⟨rfl, rfl, rfl, rfl, rfl, rfl, rfl, rfl, (vint_eq (by omega)), trivial⟩, (by omega), (by rw [← inb_next hkx, ← hg]; first | (rw [gg, Bool.true_and]; unfold inB; rw [decide_eq_decide, ← hqn]; omega) | (rw [gg]; rfl)), hb1, hBw, hBr, hN, hNr, hsz, hB⟩ (by first | omega | (dsimp only; omega))
           ·
            have gg := hc71
            refine l_q (q_skip rfl) ?_
            refine l_q (q_skip rfl) ?_
            refine l_q (q_skip rfl) ?_
            refine l_q (q_skip rfl) ?_
            refine l_q (q_skip rfl) ?_
            refine l_q (q_skip rfl) ?_
            refine l_q (q_skip rfl) ?_
            refine l_q (q_skip rfl) ?_
            refine l_q (q_skip rfl) ?_
            refine l_q (q_skip rfl) ?_
            refine l_q (q_skip rfl) ?_
            refine l_q (q_skip rfl) ?_
            refine l_q (q_pick_f (v := .bool _) rfl rfl rfl) ?_
            refine l_q (q_assign (v := .bool _) rfl rfl) ?_
            refine l_nil ?_
            refine r_forget [(1, .int _ _), (2, .pointer _), (6, .slice _ _ _), (7, .int _ _), (8, .int _ _), (9, .slice _ _ _), (10, .bool _), (11, .int _ _), (12, .int _ _)] ⟨rfl, rfl, rfl, rfl, rfl, rfl, rfl, rfl, rfl, trivial⟩ (fun e75 => ?_)
            refine r_inBlock (r_region' ?_)
            refine l_q (q_move (v := .int _ _) rfl rfl) ?_
            refine l_q (q_add rfl rfl (by omega) rfl) ?_
            refine l_q (q_assign (v := .int _ _) rfl rfl) ?_
            refine l_nil ?_
            exact ih68 (k + 1, false) _ _ ⟨⟨rfl, rfl, rfl, rfl, rfl, rfl, rfl, rfl, (vint_eq (by omega)), trivial⟩, (by omega), (by rw [← inb_next hkx, ← hg]; first | (rw [gg, Bool.true_and]; unfold inB; rw [decide_eq_decide, ← hqn]; omega) | (rw [gg]; rfl)), hb1, hBw, hBr, hN, hNr, hsz, hB⟩ (by first | omega | (dsimp only; omega))
          ·
           replace hc70 := dlt hc70
           refine r_exit rfl ?_
           refine r_inBlock (r_region' ?_)
           refine l_q (q_move (v := .int _ _) rfl rfl) ?_
           refine l_q (q_add rfl rfl (by omega) rfl) ?_
           refine l_q (q_assign (v := .int _ _) rfl rfl) ?_
           refine l_nil ?_
           refine r_forget [(1, .int _ _), (2, .pointer _), (6, .slice _ _ _), (7, .int _ _), (8, .int _ _), (9, .slice _ _ _), (10, .bool _), (11, .int _ _)] ⟨rfl, rfl, rfl, rfl, rfl, rfl, rfl, rfl, trivial⟩ (fun e76 => ?_)
           exact ih65 (i + 1, g) _ _ ⟨⟨rfl, rfl, rfl, rfl, rfl, rfl, rfl, (vint_eq (by omega)), trivial⟩, (by omega), (by rw [hg, hf]; exact ins_next hiR (by omega)), hb1, hBw, hBr, hN, hNr, hsz, hB⟩ (by first | omega | (dsimp only; omega))
        ·
         have hff := hc67
         have hgt : f = (fineB (R.map (·.xs)) (B.map (·.xs)) && (R.map (·.xs)).all (inS so)) := by rw [hff] at hf ⊢; exact ins_stop hf
         refine r_exit rfl ?_
         refine r_seq (r_region' ?_)
         refine l_q (q_move (v := .bool _) rfl rfl) ?_
         refine l_q (q_move (v := .bool _) rfl rfl) ?_
         refine l_part 86 rfl (fun hc77 => ?_) (fun hc77 => ?_)
         ·
          have hg1 : (fineB (R.map (·.xs)) (B.map (·.xs)) && (R.map (·.xs)).all (inS so)) = true := by rw [← hgt]; exact hc77
          refine l_q (q_load_agg (n := 3) Tryz.isAgg26 Tryz.sizeOf26 rfl ((hb1.cells' (cs' := [_, _, _]) 0 3 rfl)) rfl rfl) ?_
          refine l_q (q_move (v := .slice _ _ _) rfl rfl) ?_
          refine l_o (o_call Tryz.call52 rfl (safe10_ret na nc nd pa pc pl ca cc L _ _ R _ (hpo.below hB) hok hN hNr hRl hRx (by omega) (fun s hs => (hNx.2 s hs).2)) rfl ?_)
          rintro _ w78 ⟨rfl, hE78⟩
          replace hB := below_ext hB hE78 hsz
          replace hb1 := hb1.ext hE78
          replace hBw := hBw.ext hE78
          replace hBr := hBr.ext hE78
          replace hN := hN.ext hE78
          replace hNr := hNr.ext hE78
          replace hsz := Nat.le_trans hsz hE78.size
          refine l_q (q_pick_t (v := .bool _) rfl rfl rfl) ?_
          refine l_nil ?_
          refine r_forget [(1, .int _ _), (2, .pointer _), (6, .slice _ _ _), (7, .int _ _), (8, .int _ _), (9, .slice _ _ _), (90, .bool _)] ⟨rfl, rfl, rfl, rfl, rfl, rfl, rfl, trivial⟩ (fun e79 => ?_)
          refine r_cond rfl (fun hc80 => ?_) (fun hc80 => ?_)
          ·
           have hg2 := hc80
           refine r_region' ?_
           refine l_q (q_move (v := .slice _ _ _) rfl rfl) ?_
           refine l_q (q_assign (v := .slice _ _ _) rfl rfl) ?_
           refine l_nil (r_inBlock (r_region' ?_))
           refine l_q (q_move (v := .int _ _) rfl rfl) ?_
           refine l_q (q_add rfl rfl (by omega) rfl) ?_
           refine l_q (q_assign (v := .int _ _) rfl rfl) ?_
           refine l_nil ?_
           exact ih4 (n + 1, ra, rc, R) _ _ ⟨⟨rfl, rfl, rfl, rfl, (vint_eq (by omega)), trivial⟩, (by omega), (by first | exact best_take hB2 hNm hg1 hg2 | exact best_keep hB2 hNm hg1 hg2), (by first | exact ⟨hRl, hRx⟩ | exact hBx), hN, hNr, hb1, hsz, hB⟩ (by first | omega | (dsimp only; omega))
          ·
           have hg2 := hc80
           refine r_skip (r_inBlock (r_region' ?_))
           refine l_q (q_move (v := .int _ _) rfl rfl) ?_
           refine l_q (q_add rfl rfl (by omega) rfl) ?_
           refine l_q (q_assign (v := .int _ _) rfl rfl) ?_
           refine l_nil ?_
           exact ih4 (n + 1, ba, bc, B) _ _ ⟨⟨rfl, rfl, rfl, rfl, (vint_eq (by omega)), trivial⟩, (by omega), (by first | exact best_take hB2 hNm hg1 hg2 | exact best_keep hB2 hNm hg1 hg2), (by first | exact ⟨hRl, hRx⟩ | exact hBx), hBw, hBr, hb1, hsz, hB⟩ (by first | omega | (dsimp only; omega))
         ·
          have hg1 : (fineB (R.map (·.xs)) (B.map (·.xs)) && (R.map (·.xs)).all (inS so)) = false := by rw [← hgt]; exact hc77
          have hg2 := True.intro
          refine l_q (q_skip rfl) ?_
          refine l_q (q_skip rfl) ?_
          refine l_q (q_skip rfl) ?_
          refine l_q (q_pick_f (v := .bool _) rfl rfl rfl) ?_
          refine l_nil ?_
          refine r_forget [(1, .int _ _), (2, .pointer _), (6, .slice _ _ _), (7, .int _ _), (8, .int _ _), (9, .slice _ _ _), (90, .bool _)] ⟨rfl, rfl, rfl, rfl, rfl, rfl, rfl, trivial⟩ (fun e81 => ?_)
          refine r_cond_f rfl ?_
          refine r_skip (r_inBlock (r_region' ?_))
          refine l_q (q_move (v := .int _ _) rfl rfl) ?_
          refine l_q (q_add rfl rfl (by omega) rfl) ?_
          refine l_q (q_assign (v := .int _ _) rfl rfl) ?_
          refine l_nil ?_
          exact ih4 (n + 1, ba, bc, B) _ _ ⟨⟨rfl, rfl, rfl, rfl, (vint_eq (by omega)), trivial⟩, (by omega), (by first | exact best_take hB2 hNm hg1 hg2 | exact best_keep hB2 hNm hg1 hg2), (by first | exact ⟨hRl, hRx⟩ | exact hBx), hBw, hBr, hb1, hsz, hB⟩ (by first | omega | (dsimp only; omega))
       ·
        replace hc66 := dlt hc66
        have hgt : f = (fineB (R.map (·.xs)) (B.map (·.xs)) && (R.map (·.xs)).all (inS so)) := by rw [hf, List.take_of_length_le (by rw [List.length_map]; omega)]
        refine l_q (q_skip rfl) ?_
        refine l_q (q_pick_f (v := .bool _) rfl rfl rfl) ?_
        refine l_nil ?_
        refine r_cond_f rfl ?_
        refine r_exit rfl ?_
        refine r_seq (r_region' ?_)
        refine l_q (q_move (v := .bool _) rfl rfl) ?_
        refine l_q (q_move (v := .bool _) rfl rfl) ?_
        refine l_part 86 rfl (fun hc82 => ?_) (fun hc82 => ?_)
        ·
         have hg1 : (fineB (R.map (·.xs)) (B.map (·.xs)) && (R.map (·.xs)).all (inS so)) = true := by rw [← hgt]; exact hc82
         refine l_q (q_load_agg (n := 3) Tryz.isAgg26 Tryz.sizeOf26 rfl ((hb1.cells' (cs' := [_, _, _]) 0 3 rfl)) rfl rfl) ?_
         refine l_q (q_move (v := .slice _ _ _) rfl rfl) ?_
         refine l_o (o_call Tryz.call52 rfl (safe10_ret na nc nd pa pc pl ca cc L _ _ R _ (hpo.below hB) hok hN hNr hRl hRx (by omega) (fun s hs => (hNx.2 s hs).2)) rfl ?_)
         rintro _ w83 ⟨rfl, hE83⟩
         replace hB := below_ext hB hE83 hsz
         replace hb1 := hb1.ext hE83
         replace hBw := hBw.ext hE83
         replace hBr := hBr.ext hE83
         replace hN := hN.ext hE83
         replace hNr := hNr.ext hE83
         replace hsz := Nat.le_trans hsz hE83.size
         refine l_q (q_pick_t (v := .bool _) rfl rfl rfl) ?_
         refine l_nil ?_
         refine r_forget [(1, .int _ _), (2, .pointer _), (6, .slice _ _ _), (7, .int _ _), (8, .int _ _), (9, .slice _ _ _), (90, .bool _)] ⟨rfl, rfl, rfl, rfl, rfl, rfl, rfl, trivial⟩ (fun e84 => ?_)
         refine r_cond rfl (fun hc85 => ?_) (fun hc85 => ?_)
         ·
          have hg2 := hc85
          refine r_region' ?_
          refine l_q (q_move (v := .slice _ _ _) rfl rfl) ?_
          refine l_q (q_assign (v := .slice _ _ _) rfl rfl) ?_
          refine l_nil (r_inBlock (r_region' ?_))
          refine l_q (q_move (v := .int _ _) rfl rfl) ?_
          refine l_q (q_add rfl rfl (by omega) rfl) ?_
          refine l_q (q_assign (v := .int _ _) rfl rfl) ?_
          refine l_nil ?_
          exact ih4 (n + 1, ra, rc, R) _ _ ⟨⟨rfl, rfl, rfl, rfl, (vint_eq (by omega)), trivial⟩, (by omega), (by first | exact best_take hB2 hNm hg1 hg2 | exact best_keep hB2 hNm hg1 hg2), (by first | exact ⟨hRl, hRx⟩ | exact hBx), hN, hNr, hb1, hsz, hB⟩ (by first | omega | (dsimp only; omega))
         ·
          have hg2 := hc85
          refine r_skip (r_inBlock (r_region' ?_))
          refine l_q (q_move (v := .int _ _) rfl rfl) ?_
          refine l_q (q_add rfl rfl (by omega) rfl) ?_
          refine l_q (q_assign (v := .int _ _) rfl rfl) ?_
          refine l_nil ?_
          exact ih4 (n + 1, ba, bc, B) _ _ ⟨⟨rfl, rfl, rfl, rfl, (vint_eq (by omega)), trivial⟩, (by omega), (by first | exact best_take hB2 hNm hg1 hg2 | exact best_keep hB2 hNm hg1 hg2), (by first | exact ⟨hRl, hRx⟩ | exact hBx), hBw, hBr, hb1, hsz, hB⟩ (by first | omega | (dsimp only; omega))
        ·
         have hg1 : (fineB (R.map (·.xs)) (B.map (·.xs)) && (R.map (·.xs)).all (inS so)) = false := by rw [← hgt]; exact hc82
         have hg2 := True.intro
         refine l_q (q_skip rfl) ?_
         refine l_q (q_skip rfl) ?_
         refine l_q (q_skip rfl) ?_
         refine l_q (q_pick_f (v := .bool _) rfl rfl rfl) ?_
         refine l_nil ?_
         refine r_forget [(1, .int _ _), (2, .pointer _), (6, .slice _ _ _), (7, .int _ _), (8, .int _ _), (9, .slice _ _ _), (90, .bool _)] ⟨rfl, rfl, rfl, rfl, rfl, rfl, rfl, trivial⟩ (fun e86 => ?_)
         refine r_cond_f rfl ?_
         refine r_skip (r_inBlock (r_region' ?_))
         refine l_q (q_move (v := .int _ _) rfl rfl) ?_
         refine l_q (q_add rfl rfl (by omega) rfl) ?_
         refine l_q (q_assign (v := .int _ _) rfl rfl) ?_
         refine l_nil ?_
         exact ih4 (n + 1, ba, bc, B) _ _ ⟨⟨rfl, rfl, rfl, rfl, (vint_eq (by omega)), trivial⟩, (by omega), (by first | exact best_take hB2 hNm hg1 hg2 | exact best_keep hB2 hNm hg1 hg2), (by first | exact ⟨hRl, hRx⟩ | exact hBx), hBw, hBr, hb1, hsz, hB⟩ (by first | omega | (dsimp only; omega))
     ·
      replace hc61 := df hc61
      have g46 := hc61
      refine l_q (q_skip rfl) ?_
      refine l_q (q_skip rfl) ?_
      refine l_q (q_skip rfl) ?_
      refine l_q (q_pick_f (v := .bool _) rfl rfl rfl) ?_
      refine l_q (q_pick_f (v := .bool _) rfl rfl rfl) ?_
      refine l_q (q_assign (v := .bool _) rfl rfl) ?_
      refine l_nil ?_
      refine r_forget [(1, .int _ _), (2, .pointer _), (6, .slice _ _ _), (7, .int _ _), (8, .int _ _), (9, .slice _ _ _), (10, .bool _)] ⟨rfl, rfl, rfl, rfl, rfl, rfl, rfl, trivial⟩ (fun e87 => ?_)
      refine r_seq (r_seq ?_)
      have hf0 : false = fineB (R.map (·.xs)) (B.map (·.xs)) := by first | exact (fine_1 (by rw [List.length_map]; omega)).symm | exact (fine_2 (by omega)).symm | exact (fine_3 (by rw [List.length_map]; omega) (by omega)).symm | exact (fine_4 (by rw [List.length_map]; omega) (by omega) (by omega)).symm
      refine r_forget [(1, .int _ _), (2, .pointer _), (6, .slice _ _ _), (7, .int _ _), (8, .int _ _), (9, .slice _ _ _), (10, .bool (fineB (R.map (·.xs)) (B.map (·.xs))))] ⟨rfl, rfl, rfl, rfl, rfl, rfl, vbool_eq hf0, trivial⟩ (fun e88 => ?_)
      refine r_region' ?_
      refine l_q (q_assign (v := .int _ _) rfl rfl) ?_
      refine l_nil (r_block ?_)
      refine r_rounds (α := Nat × Bool) (fun ⟨i, f⟩ e wl => Knows e [(1, vint (so : Int)), (2, ptr b1 0), (6, .slice ba B.length bc), (7, vint (M : Int)), (8, vint (n : Int)), (9, .slice ra R.length rc), (10, .bool f), (11, vint (i : Int))] ∧ (i ≤ R.length) ∧ (f = (fineB (R.map (·.xs)) (B.map (·.xs)) && ((R.map (·.xs)).take i).all (inS so))) ∧ (Blk wl b1 [.slice na nd.length nc, .slice pa pl.length pc, .slice ca L.length cc]) ∧ (Row wl ba B.length bc 1 (B.map SV.enc)) ∧ (RowsI wl B) ∧ (Row wl ra R.length rc 1 (R.map SV.enc)) ∧ (RowsI wl R) ∧ (w.heap.size ≤ wl.heap.size) ∧ (Below w.heap.size w wl)) (fun ⟨i, f⟩ => R.length - i) (0, fineB (R.map (·.xs)) (B.map (·.xs))) ?_ ?_
      ·
       exact ⟨⟨rfl, rfl, rfl, rfl, rfl, rfl, (vbool_eq (by simp)), rfl, trivial⟩, (Nat.zero_le _), (by simp), hb1, hBw, hBr, hN, hNr, hsz, hB⟩
      ·
       rintro ⟨i, f⟩ el89 wl89 ⟨hkn, hi, hf, hb1, hBw, hBr, hN, hNr, hsz, hB⟩ ih89
       obtain ⟨e89, rfl⟩ := knows_env hkn
       refine r_seq (r_seq (r_region' ?_))
       refine l_q (q_move (v := .int _ _) rfl rfl) ?_
       refine l_q (q_move (v := .slice _ _ _) rfl rfl) ?_
       refine l_q (q_len rfl Tryz.underlying24 rfl rfl) ?_
       refine l_q (q_lss rfl rfl rfl) ?_
       refine l_q (q_move (v := .bool _) rfl rfl) ?_
       refine l_part 56 rfl (fun hc90 => ?_) (fun hc90 => ?_)
       ·
        replace hc90 := dt hc90
        have hiR : i < R.length := by omega
        have hix := hNx.2 _ (getD_lt (d := sv0) hiR)
        refine l_q (q_move (v := .bool _) rfl rfl) ?_
        refine l_q (q_pick_t (v := .bool _) rfl rfl rfl) ?_
        refine l_nil ?_
        refine r_cond rfl (fun hc91 => ?_) (fun hc91 => ?_)
        ·
         refine r_skip (r_seq (r_block (r_seq (r_region' ?_))))
         refine l_q (q_assign (v := .int _ _) rfl rfl) ?_
         refine l_nil (r_block ?_)
         refine r_rounds (α := Nat × Bool) (fun ⟨k, g⟩ e wl => Knows e [(1, vint (so : Int)), (2, ptr b1 0), (6, .slice ba B.length bc), (7, vint (M : Int)), (8, vint (n : Int)), (9, .slice ra R.length rc), (10, .bool g), (11, vint (i : Int)), (12, vint (k : Int))] ∧ (k ≤ (R.getD i sv0).xs.length) ∧ (g = (f && ((R.getD i sv0).xs.take k).all (inB so))) ∧ (Blk wl b1 [.slice na nd.length nc, .slice pa pl.length pc, .slice ca L.length cc]) ∧ (Row wl ba B.length bc 1 (B.map SV.enc)) ∧ (RowsI wl B) ∧ (Row wl ra R.length rc 1 (R.map SV.enc)) ∧ (RowsI wl R) ∧ (w.heap.size ≤ wl.heap.size) ∧ (Below w.heap.size w wl)) (fun ⟨k, g⟩ => (R.getD i sv0).xs.length - k) (0, f) ?_ ?_
         ·
          exact ⟨⟨rfl, rfl, rfl, rfl, rfl, rfl, rfl, rfl, rfl, trivial⟩, (Nat.zero_le _), (by simp), hb1, hBw, hBr, hN, hNr, hsz, hB⟩
         ·
          rintro ⟨k, g⟩ el92 wl92 ⟨hkn, hk, hg, hb1, hBw, hBr, hN, hNr, hsz, hB⟩ ih92
          obtain ⟨e92, rfl⟩ := knows_env hkn
          refine r_seq (r_seq (r_region' ?_))
          refine l_q (q_move (v := .int _ _) rfl rfl) ?_
          refine l_q (q_move (v := .slice _ _ _) rfl rfl) ?_
          refine l_q (q_move (v := .int _ _) rfl rfl) ?_
          obtain ⟨b93, o93, ha93, hh93⟩ := hN.at1 i ((R).getD i sv0) (getD_some (by omega))
          refine l_q (q_indexAddr1 Tryz.underlying24 Tryz.sizeOf22 rfl ha93 rfl (by omega) rfl) ?_
          refine l_q (q_load Tryz.isAgg22 rfl (hh93) rfl) ?_
          refine l_q (q_len rfl Tryz.underlying22 rfl rfl) ?_
          refine l_q (q_lss rfl rfl rfl) ?_
          refine l_nil ?_
          refine r_cond rfl (fun hc94 => ?_) (fun hc94 => ?_)
          ·
           replace hc94 := dt hc94
           have hkx : k < (R.getD i sv0).xs.length := by omega
           have hko := hix.2 _ (getD_lt (d := 0) hkx)
           obtain ⟨q, hq, hqn⟩ := shr_q2 so hko.1
           refine r_skip (r_seq (r_block (r_region' ?_)))
           refine l_q (q_move (v := .bool _) rfl rfl) ?_
           refine l_q (q_move (v := .bool _) rfl rfl) ?_
           refine l_part 71 rfl (fun hc95 => ?_) (fun hc95 => ?_)
           ·
            have gg := hc95
            refine l_q (q_move (v := .int _ _) rfl rfl) ?_
            refine l_q (q_move (v := .slice _ _ _) rfl rfl) ?_
            refine l_q (q_move (v := .int _ _) rfl rfl) ?_
            obtain ⟨b96, o96, ha96, hh96⟩ := hN.at1 i ((R).getD i sv0) (getD_some (by omega))
            refine l_q (q_indexAddr1 Tryz.underlying24 Tryz.sizeOf22 rfl ha96 rfl (by omega) rfl) ?_
            refine l_q (q_load Tryz.isAgg22 rfl (hh96) rfl) ?_
            refine l_q (q_move (v := .int _ _) rfl rfl) ?_
            obtain ⟨b97, o97, ha97, hh97⟩ := (RowsI.get (hNr) (i := i) (by omega)).at1 k ((((R).getD i sv0).xs).getD k 0) (getD_some (by omega))
            refine l_q (q_indexAddr1 Tryz.underlying22 Tryz.sizeOf3 rfl ha97 rfl (by omega) rfl) ?_
            refine l_q (q_load Tryz.isAgg3 rfl (hh97) rfl) ?_
            refine l_q (q_toUint Tryz.underlying3 Tryz.underlying75 rfl (by omega) rfl) ?_
            refine l_q (q_shr rfl rfl (⟨by omega, by omega⟩) rfl) ?_
            refine l_q (q_rem rfl rfl (by omega) rfl) ?_
            refine l_q (q_eql rfl rfl rfl) ?_
            refine l_q (q_pick_t (v := .bool _) rfl rfl rfl) ?_
            refine l_q (q_assign (v := .bool _) rfl rfl) ?_
            refine l_nil ?_
            refine r_forget [(1, .int _ _), (2, .pointer _), (6, .slice _ _ _), (7, .int _ _), (8, .int _ _), (9, .slice _ _ _), (10, .bool _), (11, .int _ _), (12, .int _ _)] ⟨rfl, rfl, rfl, rfl, rfl, rfl, rfl, rfl, rfl, trivial⟩ (fun e98 => ?_)
            refine r_inBlock (r_region' ?_)
            refine l_q (q_move (v := .int _ _) rfl rfl) ?_
            refine l_q (q_add rfl rfl (by omega) rfl) ?_
            refine l_q (q_assign (v := .int _ _) rfl rfl) ?_
            refine l_nil ?_
            exact ih92 (k + 1, (decide ((((so : Int) / 2 ^ (((((R).getD i sv0).xs).getD k 0).toNat)) % 2) = 1))) _ _ ⟨⟨rfl, rfl, rfl, rfl, rfl, rfl, rfl, rfl, (vint_eq (by omega)), trivial⟩, (by omega), (by rw [← inb_next hkx, ← hg]; first | (rw [gg, Bool.true_and]; unfold inB; rw [decide_eq_decide, ← hqn]; omega) | (rw [gg]; rfl)), hb1, hBw, hBr, hN, hNr, hsz, hB⟩ (by first | omega | (dsimp only; omega))
           ·
            have gg := hc95
            refine l_q (q_skip rfl) ?_
            refine l_q (q_skip rfl) ?_
            refine l_q (q_skip rfl) ?_
            refine l_q (q_skip rfl) ?_
            refine l_q (q_skip rfl) ?_
            refine l_q (q_skip rfl) ?_
            refine l_q (q_skip rfl) ?_
            refine l_q (q_skip rfl) ?_
            refine l_q (q_skip rfl) ?_
            refine l_q (q_skip rfl) ?_
            refine l_q (q_skip rfl) ?_
            refine l_q (q_skip rfl) ?_
            refine l_q (q_pick_f (v := .bool _) rfl rfl rfl) ?_
            refine l_q (q_assign (v := .bool _) rfl rfl) ?_
            refine l_nil ?_
            refine r_forget [(1, .int _ _), (2, .pointer _), (6, .slice _ _ _), (7, .int _ _), (8, .int _ _), (9, .slice _ _ _), (10, .bool _), (11, .int _ _), (12, .int _ _)] ⟨rfl, rfl, rfl, rfl, rfl, rfl, rfl, rfl, rfl, trivial⟩ (fun e99 => ?_)
            refine r_inBlock (r_region' ?_)
            refine l_q (q_move (v := .int _ _) rfl rfl) ?_
            refine l_q (q_add rfl rfl (by omega) rfl) ?_
            refine l_q (q_assign (v := .int _ _) rfl rfl) ?_
            refine l_nil ?_
            exact ih92 (k + 1, false) _ _ ⟨⟨rfl, rfl, rfl, rfl, rfl, rfl, rfl, rfl, (vint_eq (by omega)), trivial⟩, (by omega), (by rw [← inb_next hkx, ← hg]; first | (rw [gg, Bool.true_and]; unfold inB; rw [decide_eq_decide, ← hqn]; omega) | (rw [gg]; rfl)), hb1, hBw, hBr, hN, hNr, hsz, hB⟩ (by first | omega | (dsimp only; omega))
          ·
           replace hc94 := dlt hc94
           refine r_exit rfl ?_
           refine r_inBlock (r_region' ?_)
           refine l_q (q_move (v := .int _ _) rfl rfl) ?_
           refine l_q (q_add rfl rfl (by omega) rfl) ?_
           refine l_q (q_assign (v := .int _ _) rfl rfl) ?_
           refine l_nil ?_
           refine r_forget [(1, .int _ _), (2, .pointer _), (6, .slice _ _ _), (7, .int _ _), (8, .int _ _), (9, .slice _ _ _), (10, .bool _), (11, .int _ _)] ⟨rfl, rfl, rfl, rfl, rfl, rfl, rfl, rfl, trivial⟩ (fun e100 => ?_)
           exact ih89 (i + 1, g) _ _ ⟨⟨rfl, rfl, rfl, rfl, rfl, rfl, rfl, (vint_eq (by omega)), trivial⟩, (by omega), (by rw [hg, hf]; exact ins_next hiR (by omega)), hb1, hBw, hBr, hN, hNr, hsz, hB⟩ (by first | omega | (dsimp only; omega))
        ·
         have hff := hc91
         have hgt : f = (fineB (R.map (·.xs)) (B.map (·.xs)) && (R.map (·.xs)).all (inS so)) := by rw [hff] at hf ⊢; exact ins_stop hf
         refine r_exit rfl ?_
         refine r_seq (r_region' ?_)
         refine l_q (q_move (v := .bool _) rfl rfl) ?_
         refine l_q (q_move (v := .bool _) rfl rfl) ?_
         refine l_part 86 rfl (fun hc101 => ?_) (fun hc101 => ?_)
         ·
          have hg1 : (fineB (R.map (·.xs)) (B.map (·.xs)) && (R.map (·.xs)).all (inS so)) = true := by rw [← hgt]; exact hc101
          refine l_q (q_load_agg (n := 3) Tryz.isAgg26 Tryz.sizeOf26 rfl ((hb1.cells' (cs' := [_, _, _]) 0 3 rfl)) rfl rfl) ?_
          refine l_q (q_move (v := .slice _ _ _) rfl rfl) ?_
          refine l_o (o_call Tryz.call52 rfl (safe10_ret na nc nd pa pc pl ca cc L _ _ R _ (hpo.below hB) hok hN hNr hRl hRx (by omega) (fun s hs => (hNx.2 s hs).2)) rfl ?_)
          rintro _ w102 ⟨rfl, hE102⟩
          replace hB := below_ext hB hE102 hsz
          replace hb1 := hb1.ext hE102
          replace hBw := hBw.ext hE102
          replace hBr := hBr.ext hE102
          replace hN := hN.ext hE102
          replace hNr := hNr.ext hE102
          replace hsz := Nat.le_trans hsz hE102.size
          refine l_q (q_pick_t (v := .bool _) rfl rfl rfl) ?_
          refine l_nil ?_
          refine r_forget [(1, .int _ _), (2, .pointer _), (6, .slice _ _ _), (7, .int _ _), (8, .int _ _), (9, .slice _ _ _), (90, .bool _)] ⟨rfl, rfl, rfl, rfl, rfl, rfl, rfl, trivial⟩ (fun e103 => ?_)
          refine r_cond rfl (fun hc104 => ?_) (fun hc104 => ?_)
          ·
           have hg2 := hc104
           refine r_region' ?_
           refine l_q (q_move (v := .slice _ _ _) rfl rfl) ?_
           refine l_q (q_assign (v := .slice _ _ _) rfl rfl) ?_
           refine l_nil (r_inBlock (r_region' ?_))
           refine l_q (q_move (v := .int _ _) rfl rfl) ?_
           refine l_q (q_add rfl rfl (by omega) rfl) ?_
           refine l_q (q_assign (v := .int _ _) rfl rfl) ?_
           refine l_nil ?_
           exact ih4 (n + 1, ra, rc, R) _ _ ⟨⟨rfl, rfl, rfl, rfl, (vint_eq (by omega)), trivial⟩, (by omega), (by first | exact best_take hB2 hNm hg1 hg2 | exact best_keep hB2 hNm hg1 hg2), (by first | exact ⟨hRl, hRx⟩ | exact hBx), hN, hNr, hb1, hsz, hB⟩ (by first | omega | (dsimp only; omega))
          ·
           have hg2 := hc104
           refine r_skip (r_inBlock (r_region' ?_))
           refine l_q (q_move (v := .int _ _) rfl rfl) ?_
           refine l_q (q_add rfl rfl (by omega) rfl) ?_
           refine l_q (q_assign (v := .int _ _) rfl rfl) ?_
           refine l_nil ?_
           exact ih4 (n + 1, ba, bc, B) _ _ ⟨⟨rfl, rfl, rfl, rfl, (vint_eq (by omega)), trivial⟩, (by omega), (by first | exact best_take hB2 hNm hg1 hg2 | exact best_keep hB2 hNm hg1 hg2), (by first | exact ⟨hRl, hRx⟩ | exact hBx), hBw, hBr, hb1, hsz, hB⟩ (by first | omega | (dsimp only; omega))
         ·
          have hg1 : (fineB (R.map (·.xs)) (B.map (·.xs)) && (R.map (·.xs)).all (inS so)) = false := by rw [← hgt]; exact hc101
          have hg2 := True.intro
          refine l_q (q_skip rfl) ?_
          refine l_q (q_skip rfl) ?_
          refine l_q (q_skip rfl) ?_
          refine l_q (q_pick_f (v := .bool _) rfl rfl rfl) ?_
          refine l_nil ?_
          refine r_forget [(1, .int _ _), (2, .pointer _), (6, .slice _ _ _), (7, .int _ _), (8, .int _ _), (9, .slice _ _ _), (90, .bool _)] ⟨rfl, rfl, rfl, rfl, rfl, rfl, rfl, trivial⟩ (fun e105 => ?_)
          refine r_cond_f rfl ?_
          refine r_skip (r_inBlock (r_region' ?_))
          refine l_q (q_move (v := .int _ _) rfl rfl) ?_
          refine l_q (q_add rfl rfl (by omega) rfl) ?_
          refine l_q (q_assign (v := .int _ _) rfl rfl) ?_
          refine l_nil ?_
          exact ih4 (n + 1, ba, bc, B) _ _ ⟨⟨rfl, rfl, rfl, rfl, (vint_eq (by omega)), trivial⟩, (by omega), (by first | exact best_take hB2 hNm hg1 hg2 | exact best_keep hB2 hNm hg1 hg2), (by first | exact ⟨hRl, hRx⟩ | exact hBx), hBw, hBr, hb1, hsz, hB⟩ (by first | omega | (dsimp only; omega))
       ·
        replace hc90 := dlt hc90
        have hgt : f = (fineB (R.map (·.xs)) (B.map (·.xs)) && (R.map (·.xs)).all (inS so)) := by rw [hf, List.take_of_length_le (by rw [List.length_map]; omega)]
        refine l_q (q_skip rfl) ?_
        refine l_q (q_pick_f (v := .bool _) rfl rfl rfl) ?_
        refine l_nil ?_
        refine r_cond_f rfl ?_
        refine r_exit rfl ?_
        refine r_seq (r_region' ?_)
        refine l_q (q_move (v := .bool _) rfl rfl) ?_
        refine l_q (q_move (v := .bool _) rfl rfl) ?_
        refine l_part 86 rfl (fun hc106 => ?_) (fun hc106 => ?_)
        ·
         have hg1 : (fineB (R.map (·.xs)) (B.map (·.xs)) && (R.map (·.xs)).all (inS so)) = true := by rw [← hgt]; exact hc106
         refine l_q (q_load_agg (n := 3) Tryz.isAgg26 Tryz.sizeOf26 rfl ((hb1.cells' (cs' := [_, _, _]) 0 3 rfl)) rfl rfl) ?_
         refine l_q (q_move (v := .slice _ _ _) rfl rfl) ?_
         refine l_o (o_call Tryz.call52 rfl (safe10_ret na nc nd pa pc pl ca cc L _ _ R _ (hpo.below hB) hok hN hNr hRl hRx (by omega) (fun s hs => (hNx.2 s hs).2)) rfl ?_)
         rintro _ w107 ⟨rfl, hE107⟩
         replace hB := below_ext hB hE107 hsz
         replace hb1 := hb1.ext hE107
         replace hBw := hBw.ext hE107
         replace hBr := hBr.ext hE107
         replace hN := hN.ext hE107
         replace hNr := hNr.ext hE107
         replace hsz := Nat.le_trans hsz hE107.size
         refine l_q (q_pick_t (v := .bool _) rfl rfl rfl) ?_
         refine l_nil ?_
         refine r_forget [(1, .int _ _), (2, .pointer _), (6, .slice _ _ _), (7, .int _ _), (8, .int _ _), (9, .slice _ _ _), (90, .bool _)] ⟨rfl, rfl, rfl, rfl, rfl, rfl, rfl, trivial⟩ (fun e108 => ?_)
         refine r_cond rfl (fun hc109 => ?_) (fun hc109 => ?_)
         ·
          have hg2 := hc109
          refine r_region' ?_
          refine l_q (q_move (v := .slice _ _ _) rfl rfl) ?_
          refine l_q (q_assign (v := .slice _ _ _) rfl rfl) ?_
          refine l_nil (r_inBlock (r_region' ?_))
          refine l_q (q_move (v := .int _ _) rfl rfl) ?_
          refine l_q (q_add rfl rfl (by omega) rfl) ?_
          refine l_q (q_assign (v := .int _ _) rfl rfl) ?_
          refine l_nil ?_
          exact ih4 (n + 1, ra, rc, R) _ _ ⟨⟨rfl, rfl, rfl, rfl, (vint_eq (by omega)), trivial⟩, (by omega), (by first | exact best_take hB2 hNm hg1 hg2 | exact best_keep hB2 hNm hg1 hg2), (by first | exact ⟨hRl, hRx⟩ | exact hBx), hN, hNr, hb1, hsz, hB⟩ (by first | omega | (dsimp only; omega))
         ·
          have hg2 := hc109
          refine r_skip (r_inBlock (r_region' ?_))
          refine l_q (q_move (v := .int _ _) rfl rfl) ?_
          refine l_q (q_add rfl rfl (by omega) rfl) ?_
          refine l_q (q_assign (v := .int _ _) rfl rfl) ?_
          refine l_nil ?_
          exact ih4 (n + 1, ba, bc, B) _ _ ⟨⟨rfl, rfl, rfl, rfl, (vint_eq (by omega)), trivial⟩, (by omega), (by first | exact best_take hB2 hNm hg1 hg2 | exact best_keep hB2 hNm hg1 hg2), (by first | exact ⟨hRl, hRx⟩ | exact hBx), hBw, hBr, hb1, hsz, hB⟩ (by first | omega | (dsimp only; omega))
        ·
         have hg1 : (fineB (R.map (·.xs)) (B.map (·.xs)) && (R.map (·.xs)).all (inS so)) = false := by rw [← hgt]; exact hc106
         have hg2 := True.intro
         refine l_q (q_skip rfl) ?_
         refine l_q (q_skip rfl) ?_
         refine l_q (q_skip rfl) ?_
         refine l_q (q_pick_f (v := .bool _) rfl rfl rfl) ?_
         refine l_nil ?_
         refine r_forget [(1, .int _ _), (2, .pointer _), (6, .slice _ _ _), (7, .int _ _), (8, .int _ _), (9, .slice _ _ _), (90, .bool _)] ⟨rfl, rfl, rfl, rfl, rfl, rfl, rfl, trivial⟩ (fun e110 => ?_)
         refine r_cond_f rfl ?_
         refine r_skip (r_inBlock (r_region' ?_))
         refine l_q (q_move (v := .int _ _) rfl rfl) ?_
         refine l_q (q_add rfl rfl (by omega) rfl) ?_
         refine l_q (q_assign (v := .int _ _) rfl rfl) ?_
         refine l_nil ?_
         exact ih4 (n + 1, ba, bc, B) _ _ ⟨⟨rfl, rfl, rfl, rfl, (vint_eq (by omega)), trivial⟩, (by omega), (by first | exact best_take hB2 hNm hg1 hg2 | exact best_keep hB2 hNm hg1 hg2), (by first | exact ⟨hRl, hRx⟩ | exact hBx), hBw, hBr, hb1, hsz, hB⟩ (by first | omega | (dsimp only; omega))
  ·
   replace hc5 := dlt hc5
   refine r_exit rfl ?_
   refine r_seq (r_region' ?_)
   refine l_q (q_move (v := .slice _ _ _) rfl rfl) ?_
   refine l_q (q_move (v := .slice _ _ _) rfl rfl) ?_
   refine l_q (q_len rfl Tryz.underlying24 rfl rfl) ?_
   refine l_q (q_gtr rfl rfl rfl) ?_
   refine l_q (q_assign (v := .slice _ _ _) rfl rfl) ?_
   refine l_q (q_assign (v := .bool _) rfl rfl) ?_
   refine l_nil ?_
   refine r_forget [(4, .slice _ _ _), (5, .bool _)] ⟨rfl, rfl, trivial⟩ (fun e111 => ?_)
   refine r_ret_ (vs := [.slice _ _ _, .bool _]) rfl Tryz.func54 rfl (.nil _) ⟨rfl, rfl, trivial⟩ ?_
   exact ⟨ba, bc, B, tup2 rfl (vbool_eq (by rw [decide_eq_decide]; omega)), hBw, hBr, (by rw [hB2, show n = M by omega, hMn]), Ext.of_below hB⟩
theorem enough10_ret (na : Option Addr) (nc : Nat) (nd : List Int) (pa : Option Addr) (pc : Nat) (pl : List PV) (ca : Option Addr) (cc : Nat) (L : List SV) (w : World) (hpo : PoAt w na nc nd pa pc pl ca cc L) (hok : faultP (po nd pl L) = 0) (hsm : pl.length * nd.length ≤ 12) : Ret Tryz.prog 29 [.agg ⟨[.slice na nd.length nc, .slice pa pl.length pc, .slice ca L.length cc]⟩] w (fun v w' => ∃ ba bc, v = .tuple ⟨[.slice ba (enoughN nd pl (L.map (·.xs)) (2 ^ pl.length - 1)).length bc, .bool (canN nd pl (L.map (·.xs)) (2 ^ pl.length - 1))]⟩ ∧ Row w' ba (enoughN nd pl (L.map (·.xs)) (2 ^ pl.length - 1)).length bc 1 ((enoughN nd pl (L.map (·.xs)) (2 ^ pl.length - 1)).map vint) ∧ Ext w w') := by
 obtain ⟨⟨hn1, hn5⟩, ⟨hp1, hp4⟩, hL4, hnn, hpp, hLL⟩ := po_ok hok
 obtain ⟨N, hN, hN16, hNn⟩ := two_pow hp4
 have hN0 : 0 < N := by rw [hNn]; exact Nat.two_pow_pos _
 obtain ⟨A, hA⟩ : ∃ A, A = N - 1 := ⟨_, rfl⟩
 have hAn : A = 2 ^ pl.length - 1 := by rw [hA, hNn]
 have hB := Below.refl w.heap.size w
 have hsz : w.heap.size ≤ w.heap.size := Nat.le_refl _
 refine ret_of_runs (args := [_]) Tryz.func29 rfl (Nat.le_of_ble_eq_true rfl) (by kernel_rfl) ?_
 refine r_seq (r_region' ?_)
 refine l_o (o_box rfl rfl rfl ?_)
 intro b1 w1 hzl1 hzr1 _ hb1 hE1
 have hbs_b1 : w.heap.size ≤ b1 := Nat.le_trans hsz hzl1
 replace hB := below_ext hB hE1 hsz
 replace hsz := Nat.le_trans hsz hE1.size
 refine l_q (q_assign (v := .slice _ _ _) rfl rfl) ?_
 refine l_q (q_assign (v := .bool _) rfl rfl) ?_
 refine l_nil (r_seq (r_region' ?_))
 refine l_q (q_fieldAddr (o' := 1) rfl fld26_1 rfl) ?_
 refine l_q (q_load Tryz.isAgg23 rfl ((hb1.has (o := 1) rfl)) rfl) ?_
 refine l_q (q_len rfl Tryz.underlying23 rfl rfl) ?_
 refine l_q (q_toUint Tryz.underlying3 Tryz.underlying75 rfl (by omega) rfl) ?_
 refine l_q (q_shl rfl rfl (by omega) (by omega) rfl) ?_
 refine l_q (q_sub rfl rfl (by omega) rfl) ?_
 refine l_q (q_assign (v := .int _ _) rfl rfl) ?_
 refine l_nil (r_seq ?_)
 refine r_forget [(0, .agg _), (1, .pointer _), (2, .slice _ _ _), (3, .bool _), (4, vint (A : Int)), (12, .pointer _), (13, .slice _ _ _), (14, .int _ _), (15, .int _ _), (16, .int _ _), (17, .int _ _)] ⟨rfl, rfl, rfl, rfl, vint_eq (by omega), rfl, rfl, rfl, rfl, rfl, rfl, trivial⟩ (fun e2 => ?_)
 refine r_region' ?_
 refine l_q (q_move (v := .int _ _) rfl rfl) ?_
 refine l_o (o_call Tryz.call45 rfl (bits_ret A _ (by omega)) rfl ?_)
 rintro _ w3 ⟨a3_0, c3_0, rfl, ho3_0, hE3⟩
 replace ho3_0 := own_mono ho3_0 (show w.heap.size ≤ _ by omega)
 replace hB := below_ext hB hE3 hsz
 replace hb1 := hb1.ext hE3
 replace hsz := Nat.le_trans hsz hE3.size
 refine l_q (q_assign (v := .slice _ _ _) rfl rfl) ?_
 refine l_nil ?_
 refine r_forget [(1, .pointer _), (4, .int _ _), (5, .slice _ _ _)] ⟨rfl, rfl, rfl, trivial⟩ (fun e4 => ?_)
 refine r_seq (r_region' ?_)
 refine l_q (q_load_agg (n := 3) Tryz.isAgg26 Tryz.sizeOf26 rfl ((hb1.cells' (cs' := [_, _, _]) 0 3 rfl)) rfl rfl) ?_
 refine l_q (q_move (v := .int _ _) rfl rfl) ?_
 refine l_o (o_call Tryz.call54 rfl (best10_ret na nc nd pa pc pl ca cc L A _ (hpo.below hB) hok hsm (by omega)) rfl ?_)
 rintro _ w5 ⟨xa5, xc5, X5, rfl, hX5, hXr5, hXm5, hE5⟩
 replace hB := below_ext hB hE5 hsz
 replace hb1 := hb1.ext hE5
 replace ho3_0 := own_ext ho3_0 hE5
 replace hsz := Nat.le_trans hsz hE5.size
 have hcan5 : decide (0 < X5.length) = canN nd pl (L.map (·.xs)) A := can_of hXm5
 refine l_q (q_move (v := .tuple _) rfl rfl) ?_
 refine l_q (q_extract (vs := [_, _]) (v := .slice _ _ _) rfl rfl rfl) ?_
 refine l_q (q_extract (vs := [_, _]) (v := .bool _) rfl rfl rfl) ?_
 refine l_q (q_assign (v := .slice _ _ _) rfl rfl) ?_
 refine l_q (q_assign (v := .bool _) rfl rfl) ?_
 refine l_nil (r_seq (r_seq ?_))
 refine r_forget [(1, .pointer _), (4, .int _ _), (5, .slice _ _ _), (6, .slice _ _ _), (7, .bool (canN nd pl (L.map (·.xs)) A)), (20, .tuple _), (21, .agg _), (22, .int _ _), (23, .tuple _), (24, .slice _ _ _), (25, .bool _)] ⟨rfl, rfl, rfl, rfl, vbool_eq hcan5, rfl, rfl, rfl, rfl, rfl, rfl, trivial⟩ (fun e6 => ?_)
 refine r_region' ?_
 refine l_q (q_assign (v := .int _ _) rfl rfl) ?_
 refine l_nil (r_block ?_)
 refine r_rounds (α := Nat × (Option Addr) × Nat × (List Int)) (fun ⟨k, ba, bc, B⟩ e wl => Knows e [(1, ptr b1 0), (4, vint (A : Int)), (5, .slice ba ((B).length) bc), (7, .bool (canN nd pl (L.map (·.xs)) A)), (8, vint (k : Int))] ∧ (k ≤ A) ∧ (B = enoughN nd pl (L.map (·.xs)) k) ∧ (B.length ≤ 20) ∧ (Row wl ba ((B).length) bc 1 ((B).map vint)) ∧ (Blk wl b1 [.slice na nd.length nc, .slice pa pl.length pc, .slice ca L.length cc]) ∧ (wl.ownsRow w.heap.size 3 1 (.slice a3_0 ((bitsL A).length) c3_0) ((bitsL A).length) ((bitsL A).map vint)) ∧ (w.heap.size ≤ wl.heap.size) ∧ (Below w.heap.size w wl)) (fun ⟨k, ba, bc, B⟩ => A - k) (0, a3_0, c3_0, bitsL A) ?_ ?_
 ·
  exact ⟨⟨rfl, rfl, rfl, rfl, rfl, trivial⟩, (Nat.zero_le _), (by rw [hAn]; exact en_zero.symm), (bits_len _), (Row.of_owns ho3_0), hb1, ho3_0, hsz, hB⟩
 ·
  rintro ⟨k, ba, bc, B⟩ el7 wl7 ⟨hkn, hk, hB2, hBx, hBw, hb1, ho3_0, hsz, hB⟩ ih7
  obtain ⟨e7, rfl⟩ := knows_env hkn
  refine r_seq (r_seq (r_region' ?_))
  refine l_q (q_move (v := .int _ _) rfl rfl) ?_
  refine l_q (q_move (v := .int _ _) rfl rfl) ?_
  refine l_q (q_lss rfl rfl rfl) ?_
  refine l_q (q_move (v := .bool _) rfl rfl) ?_
  refine l_part 29 rfl (fun hc8 => ?_) (fun hc8 => ?_)
  ·
   replace hc8 := dt hc8
   have hkA : k < A := by omega
   refine l_q (q_move (v := .bool _) rfl rfl) ?_
   refine l_q (q_pick_t (v := .bool _) rfl rfl rfl) ?_
   refine l_nil ?_
   refine r_cond rfl (fun hc9 => ?_) (fun hc9 => ?_)
   ·
    have g31 : canN nd pl (L.map (·.xs)) (2 ^ pl.length - 1) = true := by rw [← hAn]; exact hc9
    refine r_skip (r_seq (r_block (r_seq (r_region' ?_))))
    refine l_q (q_move (v := .int _ _) rfl rfl) ?_
    refine l_o (o_call Tryz.call45 rfl (bits_ret k _ (by omega)) rfl ?_)
    rintro _ w10 ⟨a10_0, c10_0, rfl, ho10_0, hE10⟩
    replace ho10_0 := own_mono ho10_0 (show w.heap.size ≤ _ by omega)
    replace hB := below_ext hB hE10 hsz
    replace hb1 := hb1.ext hE10
    replace ho3_0 := own_ext ho3_0 hE10
    replace hBw := hBw.ext hE10
    replace hsz := Nat.le_trans hsz hE10.size
    refine l_q (q_assign (v := .slice _ _ _) rfl rfl) ?_
    refine l_nil (r_seq (r_region' ?_))
    refine l_q (q_move (v := .slice _ _ _) rfl rfl) ?_
    refine l_q (q_move (v := .slice _ _ _) rfl rfl) ?_
    refine l_o (o_call Tryz.call48 rfl (short10_ret _ _ (bitsL k) _ _ B _ (Row.of_owns ho10_0) (Nat.le_trans (bits_len _) (by decide)) hBw (by omega)) rfl ?_)
    rintro _ w11 ⟨rfl, hE11⟩
    replace hB := below_ext hB hE11 hsz
    replace hb1 := hb1.ext hE11
    replace ho3_0 := own_ext ho3_0 hE11
    replace hBw := hBw.ext hE11
    replace ho10_0 := own_ext ho10_0 hE11
    replace hsz := Nat.le_trans hsz hE11.size
    refine l_nil ?_
    refine r_forget [(1, .pointer _), (4, .int _ _), (5, .slice _ _ _), (7, .bool _), (8, .int _ _), (9, .slice _ _ _), (38, .bool _)] ⟨rfl, rfl, rfl, rfl, rfl, rfl, rfl, trivial⟩ (fun e12 => ?_)
    refine r_cond rfl (fun hc13 => ?_) (fun hc13 => ?_)
    ·
     have g38 := hc13
     refine r_seq (r_region' ?_)
     refine l_q (q_load_agg (n := 3) Tryz.isAgg26 Tryz.sizeOf26 rfl ((hb1.cells' (cs' := [_, _, _]) 0 3 rfl)) rfl rfl) ?_
     refine l_q (q_move (v := .int _ _) rfl rfl) ?_
     refine l_o (o_call Tryz.call54 rfl (best10_ret na nc nd pa pc pl ca cc L k _ (hpo.below hB) hok hsm (by omega)) rfl ?_)
     rintro _ w14 ⟨xa14, xc14, X14, rfl, hX14, hXr14, hXm14, hE14⟩
     replace hB := below_ext hB hE14 hsz
     replace hb1 := hb1.ext hE14
     replace ho3_0 := own_ext ho3_0 hE14
     replace hBw := hBw.ext hE14
     replace ho10_0 := own_ext ho10_0 hE14
     replace hsz := Nat.le_trans hsz hE14.size
     have hcan14 : decide (0 < X14.length) = canN nd pl (L.map (·.xs)) k := can_of hXm14
     refine l_q (q_move (v := .tuple _) rfl rfl) ?_
     refine l_q (q_extract (vs := [_, _]) (v := .slice _ _ _) rfl rfl rfl) ?_
     refine l_q (q_extract (vs := [_, _]) (v := .bool _) rfl rfl rfl) ?_
     refine l_q (q_assign (v := .slice _ _ _) rfl rfl) ?_
     refine l_q (q_assign (v := .bool _) rfl rfl) ?_
     refine l_nil (r_seq ?_)
     refine r_forget [(1, .pointer _), (4, .int _ _), (5, .slice _ _ _), (7, .bool _), (8, .int _ _), (9, .slice _ _ _), (10, .slice _ _ _), (11, .bool (canN nd pl (L.map (·.xs)) k)), (38, .bool _), (39, .tuple _), (40, .agg _), (41, .int _ _), (42, .tuple _), (43, .slice _ _ _), (44, .bool _)] ⟨rfl, rfl, rfl, rfl, rfl, rfl, rfl, vbool_eq hcan14, rfl, rfl, rfl, rfl, rfl, rfl, rfl, trivial⟩ (fun e15 => ?_)
     refine r_region' ?_
     refine l_q (q_move (v := .bool _) rfl rfl) ?_
     refine l_nil ?_
     refine r_cond rfl (fun hc16 => ?_) (fun hc16 => ?_)
     ·
      have g45 := hc16
      refine r_region' ?_
      refine l_q (q_move (v := .slice _ _ _) rfl rfl) ?_
      refine l_q (q_assign (v := .slice _ _ _) rfl rfl) ?_
      refine l_nil ?_
      refine r_forget [(1, .pointer _), (4, .int _ _), (5, .slice _ _ _), (7, .bool _), (8, .int _ _)] ⟨rfl, rfl, rfl, rfl, rfl, trivial⟩ (fun e17 => ?_)
      refine r_inBlock (r_region' ?_)
      refine l_q (q_move (v := .int _ _) rfl rfl) ?_
      refine l_q (q_add rfl rfl (by omega) rfl) ?_
      refine l_q (q_assign (v := .int _ _) rfl rfl) ?_
      refine l_nil ?_
      exact ih7 (k + 1, a10_0, c10_0, bitsL k) _ _ ⟨⟨rfl, rfl, rfl, rfl, (vint_eq (by omega)), trivial⟩, (by omega), (by first | exact en_take hB2 g38 g45 | exact en_keep1 hB2 g38 | exact en_keep2 hB2 g38 g45), (by first | exact bits_len _ | exact hBx), (Row.of_owns ho10_0), hb1, ho3_0, hsz, hB⟩ (by first | omega | (dsimp only; omega))
     ·
      have g45 := hc16
      refine r_skip (r_inBlock (r_region' ?_))
      refine l_q (q_move (v := .int _ _) rfl rfl) ?_
      refine l_q (q_add rfl rfl (by omega) rfl) ?_
      refine l_q (q_assign (v := .int _ _) rfl rfl) ?_
      refine l_nil ?_
      refine r_forget [(1, .pointer _), (4, .int _ _), (5, .slice _ _ _), (7, .bool _), (8, .int _ _)] ⟨rfl, rfl, rfl, rfl, rfl, trivial⟩ (fun e18 => ?_)
      exact ih7 (k + 1, ba, bc, B) _ _ ⟨⟨rfl, rfl, rfl, rfl, (vint_eq (by omega)), trivial⟩, (by omega), (by first | exact en_take hB2 g38 g45 | exact en_keep1 hB2 g38 | exact en_keep2 hB2 g38 g45), (by first | exact bits_len _ | exact hBx), hBw, hb1, ho3_0, hsz, hB⟩ (by first | omega | (dsimp only; omega))
    ·
     have g38 := hc13
     refine r_skip (r_inBlock (r_region' ?_))
     refine l_q (q_move (v := .int _ _) rfl rfl) ?_
     refine l_q (q_add rfl rfl (by omega) rfl) ?_
     refine l_q (q_assign (v := .int _ _) rfl rfl) ?_
     refine l_nil ?_
     exact ih7 (k + 1, ba, bc, B) _ _ ⟨⟨rfl, rfl, rfl, rfl, (vint_eq (by omega)), trivial⟩, (by omega), (by first | exact en_take hB2 g38 g45 | exact en_keep1 hB2 g38 | exact en_keep2 hB2 g38 g45), (by first | exact bits_len _ | exact hBx), hBw, hb1, ho3_0, hsz, hB⟩ (by first | omega | (dsimp only; omega))
   ·
    have g31 : canN nd pl (L.map (·.xs)) (2 ^ pl.length - 1) = false := by rw [← hAn]; exact hc9
    refine r_exit rfl ?_
    refine r_seq (r_region' ?_)
    refine l_q (q_move (v := .slice _ _ _) rfl rfl) ?_
    refine l_q (q_move (v := .bool _) rfl rfl) ?_
    refine l_q (q_assign (v := .slice _ _ _) rfl rfl) ?_
    refine l_q (q_assign (v := .bool _) rfl rfl) ?_
    refine l_nil ?_
    refine r_forget [(2, .slice _ _ _), (3, .bool _)] ⟨rfl, rfl, trivial⟩ (fun e19 => ?_)
    refine r_ret_ (vs := [.slice _ _ _, .bool _]) rfl Tryz.func29 rfl (.nil _) ⟨rfl, rfl, trivial⟩ ?_
    have hBe : B = enoughN nd pl (L.map (·.xs)) (2 ^ pl.length - 1) := by rw [hB2, ← hAn]; first | (rw [show k = A by omega]; done) | exact (en_none g31 _ _)
    subst hBe
    exact ⟨ba, bc, tup2 rfl (vbool_eq (by rw [hAn])), hBw, Ext.of_below hB⟩
  ·
   replace hc8 := dlt hc8
   have hkE := hc8
   refine l_q (q_skip rfl) ?_
   refine l_q (q_pick_f (v := .bool _) rfl rfl rfl) ?_
   refine l_nil ?_
   refine r_cond_f rfl ?_
   refine r_exit rfl ?_
   refine r_seq (r_region' ?_)
   refine l_q (q_move (v := .slice _ _ _) rfl rfl) ?_
   refine l_q (q_move (v := .bool _) rfl rfl) ?_
   refine l_q (q_assign (v := .slice _ _ _) rfl rfl) ?_
   refine l_q (q_assign (v := .bool _) rfl rfl) ?_
   refine l_nil ?_
   refine r_forget [(2, .slice _ _ _), (3, .bool _)] ⟨rfl, rfl, trivial⟩ (fun e20 => ?_)
   refine r_ret_ (vs := [.slice _ _ _, .bool _]) rfl Tryz.func29 rfl (.nil _) ⟨rfl, rfl, trivial⟩ ?_
   have hBe : B = enoughN nd pl (L.map (·.xs)) (2 ^ pl.length - 1) := by rw [hB2, ← hAn]; first | (rw [show k = A by omega]; done) | exact (en_none g31 _ _)
   subst hBe
   exact ⟨ba, bc, tup2 rfl (vbool_eq (by rw [hAn])), hBw, Ext.of_below hB⟩
end Go.Proofs.YtgdanglidienmaaGreat
