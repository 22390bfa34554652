/- Contracts. -/
import Derived.Test.YtbikicakdkbcgaaR1
import Derived.Test.YtbikicakdkbcgaaF5
import Derived.Test.YtbikicakdkbcgaaF13
set_option linter.unusedVariables false
set_option linter.unusedSimpArgs false
namespace Go.Proofs.Ytbikicakdkbcgaa
open Go Go.RowKit Go.Gv Go.Fl

theorem blk_eq {w : World} {b : Nat} {l l' : List Int} (h : l = l') (hb : Blk w b (l.map vint)) : Blk w b (l'.map vint) := h ▸ hb
def begS (k : Nat) : List Int := (List.range 4).flatMap (fun i => if i < k then [-1, 0] else [0, 0])
def stood0 : List Int := [-1, 0, -1, 0, -1, 0, -1, 0]
theorem begS_len (k : Nat) : (begS k).length = 8 := by
  simp only [begS, List.length_flatMap]
  simp only [List.range, List.range.loop, List.map_cons, List.map_nil]
  repeat' split
  all_goals rfl
theorem begS_step {k : Nat} (h : k < 4) : (begS k).set (0 + k * 2 + 0) (-1) = begS (k + 1) := by
  rcases (show k = 0 ∨ k = 1 ∨ k = 2 ∨ k = 3 by omega) with rfl | rfl | rfl | rfl <;> rfl
theorem po_ok {nd : List Int} {pl : List PV} {L : List SV} (h : faultP (po nd pl L) = 0) : (1 ≤ nd.length ∧ nd.length ≤ 5) ∧ (1 ≤ pl.length ∧ pl.length ≤ 4) ∧ L.length ≤ 4 ∧ (∀ n ∈ nd, 0 ≤ n ∧ n ≤ 2) ∧
    (∀ x ∈ pl, x.ab.length = nd.length ∧ (0 ≤ x.r ∧ x.r ≤ 5) ∧ 0 ≤ x.m ∧ x.m ≤ 5) ∧ (∀ s ∈ L, s.xs.length = pl.length ∧ ∀ n ∈ s.xs, -1 ≤ n ∧ n ≤ (nd.length : Int) - 1) := by
  unfold faultP po at h
  split at h
  · cases h
  · rename_i h1
    split at h
    · rename_i h2
      simp only [pn_all, xs_all, List.length_map, Bool.and_eq_true, decide_eq_true_eq, List.all_eq_true] at h1 h2
      obtain ⟨⟨⟨⟨a, b⟩, c⟩, d⟩, e⟩ := h2
      refine ⟨⟨by omega, by omega⟩, ⟨by omega, by omega⟩, by omega, fun n hn => ?_, fun x hx => ?_, fun s hs => ?_⟩
      · have := c n hn; simpa [okNeed] using this
      · have := d x hx
        unfold okPerson PV.pn at this
        simp only [Bool.and_eq_true, decide_eq_true_eq] at this
        exact ⟨by omega, this.1.2, this.2⟩
      · have := e s hs
        simp only [okIll, illIn, Bool.and_eq_true, decide_eq_true_eq, List.all_eq_true] at this
        exact ⟨by omega, fun n hn => this.2 n hn⟩
    · cases h
def badD (x : PV) (la ma : Int) (wt : Nat) : Bool := !(x.ab.getD wt false) || (decide (x.m ≤ ma) || (!decide (la = -1) && decide ((wt : Int) - la ≤ x.r)))
def setD (S : List Int) (i wt : Nat) : List Int := (S.set (0 + i * 2) (wt : Int)).set (0 + i * 2 + 1) (S.getD (0 + i * 2 + 1) 0 + 1)
def aftL (pl : List PV) (wt : Nat) : List Int → List Int → List Int × Bool
  | S, [] => (S, true)
  | S, i :: l => if badD (pl.getD i.toNat pv0) (S.getD (0 + i.toNat * 2 + 0) 0) (S.getD (0 + i.toNat * 2 + 1) 0) wt = true then (S, false) else aftL pl wt (setD S i.toNat wt) l
section
variable {pl : List PV} {wt : Nat} {S S0 : List Int} {xs : List Int} {k : Nat}
theorem aft_nil (pl : List PV) (wt : Nat) (S : List Int) : aftL pl wt S [] = (S, true) := rfl
theorem aft_bad (hk : k < xs.length) (h : badD (pl.getD (xs.getD k 0).toNat pv0) (S.getD (0 + (xs.getD k 0).toNat * 2 + 0) 0) (S.getD (0 + (xs.getD k 0).toNat * 2 + 1) 0) wt = true) : aftL pl wt S (xs.drop k) = (S, false) := by
  rw [drop_getD (d := 0) hk, aftL, if_pos h]
theorem aft_ok (hk : k < xs.length) (h : badD (pl.getD (xs.getD k 0).toNat pv0) (S.getD (0 + (xs.getD k 0).toNat * 2 + 0) 0) (S.getD (0 + (xs.getD k 0).toNat * 2 + 1) 0) wt = false) : aftL pl wt S (xs.drop k) = aftL pl wt (setD S (xs.getD k 0).toNat wt) (xs.drop (k + 1)) := by
  rw [drop_getD (d := 0) hk, aftL, if_neg (by rw [h]; decide)]
theorem aft_out {a : List Int} {b : Bool} (h : aftL pl wt S0 xs = (a, b)) : (Value.tuple ⟨[.agg ⟨(aftL pl wt S0 xs).1.map vint⟩, .bool (aftL pl wt S0 xs).2]⟩ : Value) = .tuple ⟨[.agg ⟨a.map vint⟩, .bool b]⟩ := by rw [h]
theorem setD_b {i : Nat} {x y : Int} (h : ∀ v ∈ S, -1 ≤ v ∧ v ≤ 1000) (hx : -1 ≤ x ∧ x ≤ 1000) (hy : -1 ≤ y ∧ y ≤ 1000) : ∀ v ∈ (S.set i x).set (i + 1) y, -1 ≤ v ∧ v ≤ 1000 := by
  intro v hv
  rcases List.mem_or_eq_of_mem_set hv with h1 | h1
  · rcases List.mem_or_eq_of_mem_set h1 with h2 | h2
    · exact h v h2
    · subst h2; exact hx
  · subst h1; exact hy
end

theorem fld56_0 (w : World) (b o : Nat) : (Instr.fieldAt 56 (ptr b o) 0).run Try.prog w = .ok (ptr b (o + 0)) w := by
  simp [Instr.fieldAt, run_underlying Try.underlying56, fieldPlace, Instr.sureAddr, Try.sizeOf3, Addr.add_lit]
theorem fld56_1 (w : World) (b o : Nat) : (Instr.fieldAt 56 (ptr b o) 1).run Try.prog w = .ok (ptr b (o + 1)) w := by
  simp [Instr.fieldAt, run_underlying Try.underlying56, fieldPlace, Instr.sureAddr, Try.sizeOf3, Addr.add_lit]
theorem begun_ret (w : World) : Ret Try.prog 18 [] w (fun v w' => v = .agg ⟨stood0.map vint⟩ ∧ Ext w w') := by
 have hB := Below.refl w.heap.size w
 have hsz : w.heap.size ≤ w.heap.size := Nat.le_refl _
 refine ret_of_runs (args := []) Try.func18 rfl (Nat.le_of_ble_eq_true rfl) (by kernel_rfl) (r_seq (r_region' (l_o (o_alloc Try.zeroValue58 rfl rfl ?_))))
 intro b1 w1 hzl1 hzr1 _ hb1 hE1
 have hbs_b1 : w.heap.size ≤ b1 := Nat.le_trans hsz hzl1
 replace hB := below_ext hB hE1 hsz
 replace hsz := Nat.le_trans hsz hE1.size
 refine l_nil (r_seq (r_seq ?_))
 have hT := hb1
 replace hT : Blk w1 b1 ((begS 0).map vint) := hT
 refine r_region' (l_q (qmi rfl rfl) (l_nil (r_block (r_rounds (α := Nat) (fun k e wl => Knows e [(0, ptr b1 0), (2, vint (k : Int))] ∧ (k ≤ 4) ∧ (Blk wl b1 ((begS k).map vint)) ∧ (w.heap.size ≤ wl.heap.size) ∧ (Below w.heap.size w wl)) (fun k => 4 - k) 0 ?_ ?_))))
 ·
  exact ⟨⟨rfl, rfl, trivial⟩, (by decide), hT, hsz, hB⟩
 ·
  rintro k el2 wl2 ⟨hkn, hk4, hT, hsz, hB⟩ ih2
  obtain ⟨e2, rfl⟩ := knows_env hkn
  have hb8 := begS_len k
  refine r_seq (r_region' (l_q (q_lss rfl rfl rfl) (l_nil (r_seq (r_cond rfl (fun hc3 => ?_) (fun hc3 => ?_))))))
  ·
   replace hc3 := dt hc3
   refine r_skip (r_seq (r_block (r_seq (r_region' (l_q (qmi rfl rfl) (l_q (qai rfl rfl) (l_nil (r_region' (l_q (qmi rfl rfl) (l_q (q_indexAddr_arr Try.underlying58 Try.sizeOf56 rfl rfl (by omega) rfl) (l_q (q_fieldAddr (o' := 0) rfl fld56_0 rfl) (l_o (o_store1 (v := vint (-1)) (o := 0 + k * 2 + 0) Try.sizeOf3 rfl rfl rfl rfl hT (by rw [List.length_map]; (try simp only [List.length_set]); omega) rfl ?_)))))))))))))
   intro w4 hz4 hT hG4
   rw [imap_set] at hT
   replace hB := below_upd hB hG4 hsz (by omega)
   replace hsz : w.heap.size ≤ w4.heap.size := by rw [hz4]; exact hsz
   refine l_nil (r_inBlock (r_region' (l_q (q_add rfl rfl (by omega) rfl) (l_q (qmi rfl rfl) (l_nil ?_)))))
   exact ih2 (k + 1) _ _ ⟨⟨rfl, by first | rfl | exact vint_eq (by omega), trivial⟩, (by omega), (blk_eq (begS_step (by omega)) hT), hsz, hB⟩ (by first | omega | (dsimp only; omega))
  ·
   replace hc3 := dlt hc3
   refine r_exit rfl (r_seq (r_region' (l_q (q_load_agg (n := 8) Try.isAgg58 Try.sizeOf58 rfl ((hT.cells0)) (by rw [List.length_map]; (try simp only [List.length_set]); omega) rfl) (l_o (o_store_all (cs' := (begS k).map vint) Try.sizeOf58 rfl rfl hT (by rw [List.length_map]; (try simp only [List.length_set]); omega) (by rw [List.length_map]; (try simp only [List.length_set]); omega) (all_one_map _ _ (fun _ => rfl)) rfl ?_)))))
   intro w5 hz5 hT hG5
   replace hB := below_upd hB hG5 hsz (by omega)
   replace hsz : w.heap.size ≤ w5.heap.size := by rw [hz5]; exact hsz
   refine l_nil (r_ret_ (vs := [.agg _]) rfl Try.func18 rfl (.nil _) ⟨⟨_, _, rfl, run_loadVarA Try.isAgg58 Try.sizeOf58 (hT.cells0) (by rw [List.length_map]; (try simp only [List.length_set]); omega)⟩, trivial⟩ ?_)
   have hk4 : k = 4 := by omega
   subst hk4
   exact ⟨rfl, Ext.of_below hB⟩
theorem after_ret (na : Option Addr) (nc : Nat) (nd : List Int) (pa : Option Addr) (pc : Nat) (pl : List PV) (ca : Option Addr) (cc : Nat) (L : List SV) (S0 : List Int) (wt : Nat) (xa : Option Addr) (xc : Nat) (xs : List Int) (w : World) (hpo : PoAt w na nc nd pa pc pl ca cc L) (hok : faultP (po nd pl L) = 0) (hS8 : S0.length = 8) (hSb : ∀ v ∈ S0, -1 ≤ v ∧ v ≤ 1000) (hwt : wt < nd.length) (hx : Row w xa xs.length xc 1 (xs.map vint)) (hxn : xs.length ≤ 2097152) (hon : ∀ i ∈ xs, 0 ≤ i ∧ i ≤ (pl.length : Int) - 1) (hx8 : xs.length ≤ 8) : Ret Try.prog 45 [.agg ⟨[.slice na nd.length nc, .slice pa pl.length pc, .slice ca L.length cc]⟩, .agg ⟨(S0).map vint⟩, vint (wt : Int), .slice xa xs.length xc] w (fun v w' => v = .tuple ⟨[.agg ⟨(aftL pl wt S0 xs).1.map vint⟩, .bool (aftL pl wt S0 xs).2]⟩ ∧ Ext w w') := by
 obtain ⟨⟨hn1, hn5⟩, ⟨hp1, hp4⟩, hL4, hnn, hpp, hLL⟩ := po_ok hok
 have hB := Below.refl w.heap.size w
 have hsz : w.heap.size ≤ w.heap.size := Nat.le_refl _
 refine ret_of_runs (args := [_, _, _, _]) Try.func45 rfl (Nat.le_of_ble_eq_true rfl) (by kernel_rfl) (r_seq (r_region' (l_o (o_box rfl rfl rfl ?_))))
 intro b1 w1 hzl1 hzr1 _ hb1 hE1
 have hbs_b1 : w.heap.size ≤ b1 := Nat.le_trans hsz hzl1
 replace hB := below_ext hB hE1 hsz
 replace hsz := Nat.le_trans hsz hE1.size
 refine l_o (o_box rfl rfl rfl ?_)
 intro b2 w2 hzl2 hzr2 _ hb2 hE2
 have hne_b1_b2 : b1 ≠ b2 := by have := hb1.lt; omega
 have hbs_b2 : w.heap.size ≤ b2 := Nat.le_trans hsz hzl2
 replace hB := below_ext hB hE2 hsz
 replace hb1 := hb1.ext hE2
 replace hsz := Nat.le_trans hsz hE2.size
 refine l_o (o_alloc Try.zeroValue58 rfl rfl ?_)
 intro b3 w3 hzl3 hzr3 _ hb3 hE3
 have hne_b1_b3 : b1 ≠ b3 := by have := hb1.lt; omega
 have hne_b2_b3 : b2 ≠ b3 := by have := hb2.lt; omega
 have hbs_b3 : w.heap.size ≤ b3 := Nat.le_trans hsz hzl3
 replace hB := below_ext hB hE3 hsz
 replace hb1 := hb1.ext hE3
 replace hb2 := hb2.ext hE3
 replace hsz := Nat.le_trans hsz hE3.size
 refine l_q (qab rfl rfl) (l_nil (r_seq (r_seq ?_)))
 have hT := hb2
 refine r_region' (l_q (qms rfl rfl) (l_q (q_len rfl Try.underlying26 rfl rfl) (l_q (qmi rfl rfl) (l_nil (r_block (r_rounds (α := Nat × (List Int)) (fun ⟨k, S⟩ e wl => Knows e [(2, vint (wt : Int)), (4, ptr b1 0), (5, ptr b2 0), (8, ptr b3 0), (14, .slice xa xs.length xc), (15, vint (xs.length : Int)), (16, vint (k : Int))] ∧ (k ≤ xs.length) ∧ (S.length = 8) ∧ (∀ v ∈ S, -1 ≤ v ∧ v ≤ 1000) ∧ (aftL pl wt S0 xs = aftL pl wt S (xs.drop k)) ∧ (Blk wl b2 (S.map vint)) ∧ (Blk wl b1 [.slice na nd.length nc, .slice pa pl.length pc, .slice ca L.length cc]) ∧ (Blk wl b3 [vint 0, vint 0, vint 0, vint 0, vint 0, vint 0, vint 0, vint 0]) ∧ (w.heap.size ≤ wl.heap.size) ∧ (Below w.heap.size w wl)) (fun ⟨k, S⟩ => xs.length - k) (0, S0) ?_ ?_))))))
 ·
  exact ⟨⟨rfl, rfl, rfl, rfl, rfl, rfl, rfl, trivial⟩, (Nat.zero_le _), hS8, hSb, (by rw [List.drop_zero]), hT, hb1, hb3, hsz, hB⟩
 ·
  rintro ⟨k, S⟩ el4 wl4 ⟨hkn, hk, hS8, hSb, hA, hT, hb1, hb3, hsz, hB⟩ ih4
  obtain ⟨e4, rfl⟩ := knows_env hkn
  refine r_seq (r_region' (l_q (q_lss rfl rfl rfl) (l_nil (r_seq (r_cond rfl (fun hc5 => ?_) (fun hc5 => ?_))))))
  ·
   replace hc5 := dt hc5
   have hkx : k < xs.length := by omega
   have hxi := hon _ (getD_lt (l := xs) (d := 0) hkx)
   have hxp : (xs.getD k 0).toNat < pl.length := by omega
   have hpx := hpp _ (getD_lt (d := pv0) hxp)
   have hla := hSb _ (getD_lt (l := S) (d := 0) (i := 0 + (xs.getD k 0).toNat * 2 + 0) (by omega))
   have hma := hSb _ (getD_lt (l := S) (d := 0) (i := 0 + (xs.getD k 0).toNat * 2 + 1) (by omega))
   refine r_skip (r_seq (r_block (r_seq (r_region' ?_))))
   obtain ⟨b6, o6, ha6, hh6⟩ := (hx.below hB).at1 k ((xs).getD k 0) (getD_some (by omega))
   refine l_q (q_indexAddr1 Try.underlying26 Try.sizeOf3 rfl ha6 rfl (by omega) rfl) (l_q (q_load Try.isAgg3 rfl (hh6) rfl) (l_q (qai rfl rfl) (l_nil (r_seq (r_region' (l_q (q_fieldAddr (o' := 1) rfl fld29_1 rfl) (l_q (q_load Try.isAgg27 rfl ((hb1.has (o := 1) rfl)) rfl) (l_q (qmi rfl rfl) ?_))))))))
   obtain ⟨b7, o7, ha7, hh7⟩ := (hpo.rpl.below hB).at (by decide) ((xs).getD k 0).toNat (by omega)
   refine l_q (q_indexAddr Try.underlying27 Try.sizeOf45 rfl ha7 rfl (by omega) rfl) (l_q (q_load_agg (cs := [.slice (((pl).getD ((xs).getD k 0).toNat pv0).a) (((pl).getD ((xs).getD k 0).toNat pv0).ab.length) (((pl).getD ((xs).getD k 0).toNat pv0).c), vint (((pl).getD ((xs).getD k 0).toNat pv0).r), vint (((pl).getD ((xs).getD k 0).toNat pv0).m)]) (n := 3) Try.isAgg45 Try.sizeOf45 rfl ((cells_cast (wide_at PV.len pv0 _ _ (by omega)) hh7)) rfl rfl) (l_o (o_alloc Try.zeroValue45 rfl rfl ?_)))
   intro b8 w8 hzl8 hzr8 _ hb8 hE8
   have hne_b1_b8 : b1 ≠ b8 := by have := hb1.lt; omega
   have hne_b3_b8 : b3 ≠ b8 := by have := hb3.lt; omega
   have hne_b2_b8 : b2 ≠ b8 := by have := hT.lt; omega
   have hbs_b8 : w.heap.size ≤ b8 := Nat.le_trans hsz hzl8
   replace hB := below_ext hB hE8 hsz
   replace hb1 := hb1.ext hE8
   replace hb3 := hb3.ext hE8
   replace hT := hT.ext hE8
   replace hsz := Nat.le_trans hsz hE8.size
   refine l_o (o_store (vs := [.slice (((pl).getD ((xs).getD k 0).toNat pv0).a) (((pl).getD ((xs).getD k 0).toNat pv0).ab.length) (((pl).getD ((xs).getD k 0).toNat pv0).c), vint (((pl).getD ((xs).getD k 0).toNat pv0).r), vint (((pl).getD ((xs).getD k 0).toNat pv0).m)]) (cs' := [.slice (((pl).getD ((xs).getD k 0).toNat pv0).a) (((pl).getD ((xs).getD k 0).toNat pv0).ab.length) (((pl).getD ((xs).getD k 0).toNat pv0).c), vint (((pl).getD ((xs).getD k 0).toNat pv0).r), vint (((pl).getD ((xs).getD k 0).toNat pv0).m)]) Try.sizeOf45 rfl rfl rfl rfl hb8 (Nat.le_of_ble_eq_true rfl) rfl rfl ?_)
   intro w9 hz9 hb8 hG9
   replace hB := below_upd hB hG9 hsz (by omega)
   replace hsz : w.heap.size ≤ w9.heap.size := by rw [hz9]; exact hsz
   replace hb1 := hb1.upd hG9 (by omega)
   replace hb3 := hb3.upd hG9 (by omega)
   replace hT := hT.upd hG9 (by omega)
   refine l_nil (r_seq (r_region' (l_q (qmi rfl rfl) (l_q (q_indexAddr_arr Try.underlying58 Try.sizeOf56 rfl rfl (by omega) rfl) (l_q (q_assign (v := .pointer _) rfl rfl) (l_nil (r_forget [(2, .int _ _), (4, .pointer _), (5, .pointer _), (8, .pointer _), (12, .pointer _), (13, .pointer _), (14, .slice _ _ _), (15, .int _ _), (16, .int _ _)] ⟨rfl, rfl, rfl, rfl, rfl, rfl, rfl, rfl, rfl, trivial⟩ (fun e10 => (r_seq (r_seq (r_draw ext_refl' ext_trans' [0, 1, 2, 3, 4, 5, 6, 7, 8, 9, 10, 11, 12, 13, 14, 15, 16, 17, 18, 19, 20, 21, 22, 23, 24, 25, 26, 27, 28, 29, 30, 31, 32] [] 12 (by kernel_rfl) (by kernel_rfl) ?_)))))))))))
   intro w11 _ hE11
   replace hB := below_ext hB hE11 hsz
   replace hb1 := hb1.ext hE11
   replace hb3 := hb3.ext hE11
   replace hT := hT.ext hE11
   replace hb8 := hb8.ext hE11
   replace hsz := Nat.le_trans hsz hE11.size
   refine m_q rfl rfl (fun w' hC' => q_fieldAddr (o' := 0) rfl fld45_0 rfl) (m_q rfl rfl (fun w' hC' => q_load Try.isAgg43 rfl (((hb8.has (o := 0) rfl).ext hC')) rfl) (m_q rfl rfl (fun w' hC' => qmi rfl rfl) ?_))
   obtain ⟨b12, o12, ha12, hh12⟩ := ((RowsP.get (hpo.rplr) (i := ((xs).getD k 0).toNat) (by omega)).below hB).at1 wt ((((pl).getD ((xs).getD k 0).toNat pv0).ab).getD wt false) (getD_some (by omega))
   refine m_q rfl rfl (fun w' hC' => q_indexAddr1 Try.underlying43 Try.sizeOf4 rfl ha12 rfl (by omega) rfl) (m_q rfl rfl (fun w' hC' => q_load Try.isAgg4 rfl ((hh12.ext hC')) rfl) (m_q rfl rfl (fun w' hC' => q_not rfl rfl) (m_q rfl rfl (fun w' hC' => qmb rfl rfl) (m_part 33 rfl (fun hc13 => ?_) (fun hc13 => ?_)))))
   ·
    replace hc13 := nt hc13
    have g33 := hc13
    refine m_q rfl rfl (fun w' hC' => q_skip rfl) (m_q rfl rfl (fun w' hC' => q_skip rfl) (m_q rfl rfl (fun w' hC' => q_skip rfl) (m_q rfl rfl (fun w' hC' => q_skip rfl) (m_q rfl rfl (fun w' hC' => q_skip rfl) (m_q rfl rfl (fun w' hC' => q_skip rfl) (m_q rfl rfl (fun w' hC' => q_skip rfl) (m_q rfl rfl (fun w' hC' => q_pick_t (v := .bool _) rfl rfl rfl) (m_q rfl rfl (fun w' hC' => qmb rfl rfl) (m_q rfl rfl (fun w' hC' => q_skip rfl) (m_q rfl rfl (fun w' hC' => q_skip rfl) (m_q rfl rfl (fun w' hC' => q_skip rfl) (m_q rfl rfl (fun w' hC' => q_skip rfl) (m_q rfl rfl (fun w' hC' => q_skip rfl) (m_q rfl rfl (fun w' hC' => q_skip rfl) (m_q rfl rfl (fun w' hC' => q_skip rfl) (m_q rfl rfl (fun w' hC' => q_skip rfl) (m_q rfl rfl (fun w' hC' => q_skip rfl) (m_q rfl rfl (fun w' hC' => q_skip rfl) (m_q rfl rfl (fun w' hC' => q_skip rfl) (m_q rfl rfl (fun w' hC' => q_skip rfl) ?_))))))))))))))))))))
    refine m_q rfl rfl (fun w' hC' => q_skip rfl) (m_q rfl rfl (fun w' hC' => q_skip rfl) (m_q rfl rfl (fun w' hC' => q_skip rfl) (m_q rfl rfl (fun w' hC' => q_skip rfl) (m_q rfl rfl (fun w' hC' => q_pick_t (v := .bool _) rfl rfl rfl) (m_nil (r_forget [(2, .int _ _), (4, .pointer _), (5, .pointer _), (8, .pointer _), (13, .pointer _), (14, .slice _ _ _), (15, .int _ _), (16, .int _ _), (59, .bool _)] ⟨rfl, rfl, rfl, rfl, rfl, rfl, rfl, rfl, rfl, trivial⟩ (fun e14 => (r_cond_t rfl (r_seq (r_region' (l_q (q_load_agg (n := 8) Try.isAgg58 Try.sizeOf58 rfl ((hT.cells0)) (by rw [List.length_map]; (try simp only [List.length_set]); omega) rfl) (l_o (o_store_all (cs' := (S).map vint) Try.sizeOf58 rfl rfl hb3 (rfl) (by rw [List.length_map]; (try simp only [List.length_set]); omega) (all_one_map _ _ (fun _ => rfl)) rfl ?_)))))))))))))
    intro w15 hz15 hb3 hG15
    replace hB := below_upd hB hG15 hsz (by omega)
    replace hsz : w.heap.size ≤ w15.heap.size := by rw [hz15]; exact hsz
    replace hb1 := hb1.upd hG15 (by omega)
    replace hT := hT.upd hG15 (by omega)
    replace hb8 := hb8.upd hG15 (by omega)
    refine l_q (qab rfl rfl) (l_nil (r_ret_ (vs := [.agg _, .bool _]) rfl Try.func45 rfl (.nil _) ⟨⟨_, _, rfl, run_loadVarA Try.isAgg58 Try.sizeOf58 (hb3.cells0) (by rw [List.length_map]; (try simp only [List.length_set]); omega)⟩, rfl, trivial⟩ ?_))
    exact ⟨(aft_out (hA.trans (aft_bad hkx (by unfold badD; simp_all)))).symm, Ext.of_below hB⟩
   ·
    replace hc13 := nf hc13
    have g33 := hc13
    refine m_q rfl rfl (fun w' hC' => q_move (v := .pointer _) rfl rfl) (m_q rfl rfl (fun w' hC' => q_nilCheck rfl rfl) (m_q rfl rfl (fun w' hC' => q_fieldAddr (o' := 1) rfl fld56_1 rfl) (m_q rfl rfl (fun w' hC' => q_load Try.isAgg3 rfl (((hT.has (o := 0 + ((xs).getD k 0).toNat * 2 + 1) (imap (by (try simp only [List.length_set]); omega))).ext hC')) rfl) (m_q rfl rfl (fun w' hC' => q_fieldAddr (o' := 2) rfl fld45_2 rfl) (m_q rfl rfl (fun w' hC' => q_load Try.isAgg3 rfl (((hb8.has (o := 2) rfl).ext hC')) rfl) (m_q rfl rfl (fun w' hC' => q_geq rfl rfl rfl) (m_q rfl rfl (fun w' hC' => q_pick_f (v := .bool _) rfl rfl rfl) (m_q rfl rfl (fun w' hC' => qmb rfl rfl) (m_part 42 rfl (fun hc16 => ?_) (fun hc16 => ?_))))))))))
    ·
     replace hc16 := dt hc16
     have g42 := hc16
     refine m_q rfl rfl (fun w' hC' => q_skip rfl) (m_q rfl rfl (fun w' hC' => q_skip rfl) (m_q rfl rfl (fun w' hC' => q_skip rfl) (m_q rfl rfl (fun w' hC' => q_skip rfl) (m_q rfl rfl (fun w' hC' => q_skip rfl) (m_q rfl rfl (fun w' hC' => q_skip rfl) (m_q rfl rfl (fun w' hC' => q_skip rfl) (m_q rfl rfl (fun w' hC' => q_skip rfl) (m_q rfl rfl (fun w' hC' => q_skip rfl) (m_q rfl rfl (fun w' hC' => q_skip rfl) (m_q rfl rfl (fun w' hC' => q_skip rfl) (m_q rfl rfl (fun w' hC' => q_skip rfl) (m_q rfl rfl (fun w' hC' => q_skip rfl) (m_q rfl rfl (fun w' hC' => q_skip rfl) (m_q rfl rfl (fun w' hC' => q_skip rfl) (m_q rfl rfl (fun w' hC' => q_skip rfl) (m_q rfl rfl (fun w' hC' => q_pick_t (v := .bool _) rfl rfl rfl) (m_nil ?_)))))))))))))))))
     refine r_forget [(2, .int _ _), (4, .pointer _), (5, .pointer _), (8, .pointer _), (13, .pointer _), (14, .slice _ _ _), (15, .int _ _), (16, .int _ _), (59, .bool _)] ⟨rfl, rfl, rfl, rfl, rfl, rfl, rfl, rfl, rfl, trivial⟩ (fun e17 => (r_cond_t rfl (r_seq (r_region' (l_q (q_load_agg (n := 8) Try.isAgg58 Try.sizeOf58 rfl ((hT.cells0)) (by rw [List.length_map]; (try simp only [List.length_set]); omega) rfl) (l_o (o_store_all (cs' := (S).map vint) Try.sizeOf58 rfl rfl hb3 (rfl) (by rw [List.length_map]; (try simp only [List.length_set]); omega) (all_one_map _ _ (fun _ => rfl)) rfl ?_)))))))
     intro w18 hz18 hb3 hG18
     replace hB := below_upd hB hG18 hsz (by omega)
     replace hsz : w.heap.size ≤ w18.heap.size := by rw [hz18]; exact hsz
     replace hb1 := hb1.upd hG18 (by omega)
     replace hT := hT.upd hG18 (by omega)
     replace hb8 := hb8.upd hG18 (by omega)
     refine l_q (qab rfl rfl) (l_nil (r_ret_ (vs := [.agg _, .bool _]) rfl Try.func45 rfl (.nil _) ⟨⟨_, _, rfl, run_loadVarA Try.isAgg58 Try.sizeOf58 (hb3.cells0) (by rw [List.length_map]; (try simp only [List.length_set]); omega)⟩, rfl, trivial⟩ ?_))
     exact ⟨(aft_out (hA.trans (aft_bad hkx (by unfold badD; simp_all)))).symm, Ext.of_below hB⟩
    ·
     replace hc16 := dle hc16
     have g42 := hc16
     refine m_q rfl rfl (fun w' hC' => q_move (v := .pointer _) rfl rfl) (m_q rfl rfl (fun w' hC' => q_nilCheck rfl rfl) (m_q rfl rfl (fun w' hC' => q_fieldAddr (o' := 0) rfl fld56_0 rfl) (m_q rfl rfl (fun w' hC' => q_load Try.isAgg3 rfl (((hT.has (o := 0 + ((xs).getD k 0).toNat * 2 + 0) (imap (by (try simp only [List.length_set]); omega))).ext hC')) rfl) (m_q rfl rfl (fun w' hC' => q_neq rfl rfl rfl) (m_q rfl rfl (fun w' hC' => qmb rfl rfl) (m_part 48 rfl (fun hc19 => ?_) (fun hc19 => ?_)))))))
     ·
      replace hc19 := df (nt hc19)
      have g48 := hc19
      refine m_q rfl rfl (fun w' hC' => qmi rfl rfl) (m_q rfl rfl (fun w' hC' => q_move (v := .pointer _) rfl rfl) (m_q rfl rfl (fun w' hC' => q_nilCheck rfl rfl) (m_q rfl rfl (fun w' hC' => q_fieldAddr (o' := 0) rfl fld56_0 rfl) (m_q rfl rfl (fun w' hC' => q_load Try.isAgg3 rfl (((hT.has (o := 0 + ((xs).getD k 0).toNat * 2 + 0) (imap (by (try simp only [List.length_set]); omega))).ext hC')) rfl) (m_q rfl rfl (fun w' hC' => q_sub rfl rfl (by omega) rfl) (m_q rfl rfl (fun w' hC' => q_fieldAddr (o' := 1) rfl fld45_1 rfl) (m_q rfl rfl (fun w' hC' => q_load Try.isAgg3 rfl (((hb8.has (o := 1) rfl).ext hC')) rfl) (m_q rfl rfl (fun w' hC' => q_leq rfl rfl rfl) (m_q rfl rfl (fun w' hC' => q_pick_t (v := .bool _) rfl rfl rfl) (m_q rfl rfl (fun w' hC' => q_pick_f (v := .bool _) rfl rfl rfl) (m_nil ?_)))))))))))
      refine r_forget [(2, .int _ _), (4, .pointer _), (5, .pointer _), (8, .pointer _), (13, .pointer _), (14, .slice _ _ _), (15, .int _ _), (16, .int _ _), (59, .bool _)] ⟨rfl, rfl, rfl, rfl, rfl, rfl, rfl, rfl, rfl, trivial⟩ (fun e20 => (r_cond rfl (fun hc21 => ?_) (fun hc21 => ?_)))
      ·
       replace hc21 := dt hc21
       have g59 := hc21
       refine r_seq (r_region' (l_q (q_load_agg (n := 8) Try.isAgg58 Try.sizeOf58 rfl ((hT.cells0)) (by rw [List.length_map]; (try simp only [List.length_set]); omega) rfl) (l_o (o_store_all (cs' := (S).map vint) Try.sizeOf58 rfl rfl hb3 (rfl) (by rw [List.length_map]; (try simp only [List.length_set]); omega) (all_one_map _ _ (fun _ => rfl)) rfl ?_))))
       intro w22 hz22 hb3 hG22
       replace hB := below_upd hB hG22 hsz (by omega)
       replace hsz : w.heap.size ≤ w22.heap.size := by rw [hz22]; exact hsz
       replace hb1 := hb1.upd hG22 (by omega)
       replace hT := hT.upd hG22 (by omega)
       refine l_q (qab rfl rfl) (l_nil (r_ret_ (vs := [.agg _, .bool _]) rfl Try.func45 rfl (.nil _) ⟨⟨_, _, rfl, run_loadVarA Try.isAgg58 Try.sizeOf58 (hb3.cells0) (by rw [List.length_map]; (try simp only [List.length_set]); omega)⟩, rfl, trivial⟩ ?_))
       exact ⟨(aft_out (hA.trans (aft_bad hkx (by unfold badD; simp_all)))).symm, Ext.of_below hB⟩
      ·
       replace hc21 := dle hc21
       have g59 := hc21
       refine r_skip (r_region' (l_q (q_move (v := .pointer _) rfl rfl) (l_q (qmi rfl rfl) (l_q (q_move (v := .pointer _) rfl rfl) (l_q (q_nilCheck rfl rfl) (l_q (q_fieldAddr (o' := 1) rfl fld56_1 rfl) (l_q (q_load Try.isAgg3 rfl ((hT.has (o := 0 + ((xs).getD k 0).toNat * 2 + 1) (imap (by (try simp only [List.length_set]); omega)))) rfl) (l_q (q_add rfl rfl (by omega) rfl) (l_q (q_build (v := .agg ⟨[vint (wt : Int), vint (((S).getD (0 + ((xs).getD k 0).toNat * 2 + 1) 0) + 1)]⟩) (fun w => by kernel_rfl) rfl) (l_q (q_nilCheck rfl rfl) (l_o (o_store2 Try.sizeOf56 rfl rfl hT (by (try simp only [List.length_set]); omega) rfl ?_))))))))))))
       intro w23 hz23 hT hG23
       replace hB := below_upd hB hG23 hsz (by omega)
       replace hsz : w.heap.size ≤ w23.heap.size := by rw [hz23]; exact hsz
       replace hb1 := hb1.upd hG23 (by omega)
       replace hb3 := hb3.upd hG23 (by omega)
       refine l_nil (r_forget [(2, .int _ _), (4, .pointer _), (5, .pointer _), (8, .pointer _), (14, .slice _ _ _), (15, .int _ _), (16, .int _ _)] ⟨rfl, rfl, rfl, rfl, rfl, rfl, rfl, trivial⟩ (fun e24 => (r_inBlock (r_region' (l_q (q_add rfl rfl (by omega) rfl) (l_q (qmi rfl rfl) (l_nil ?_)))))))
       exact ih4 (k + 1, ((S).set (0 + ((xs).getD k 0).toNat * 2) (wt : Int)).set (0 + ((xs).getD k 0).toNat * 2 + 1) (((S).getD (0 + ((xs).getD k 0).toNat * 2 + 1) 0) + 1)) _ _ ⟨⟨rfl, rfl, rfl, rfl, rfl, rfl, (vint_eq (by omega)), trivial⟩, (by omega), (by simp only [List.length_set]; omega), (setD_b hSb (by omega) (by omega)), (hA.trans (aft_ok hkx (by unfold badD; simp_all))), hT, hb1, hb3, hsz, hB⟩ (by first | omega | (dsimp only; omega))
     ·
      replace hc19 := dt (nf hc19)
      have g48 := hc19
      refine m_q rfl rfl (fun w' hC' => q_skip rfl) (m_q rfl rfl (fun w' hC' => q_skip rfl) (m_q rfl rfl (fun w' hC' => q_skip rfl) (m_q rfl rfl (fun w' hC' => q_skip rfl) (m_q rfl rfl (fun w' hC' => q_skip rfl) (m_q rfl rfl (fun w' hC' => q_skip rfl) (m_q rfl rfl (fun w' hC' => q_skip rfl) (m_q rfl rfl (fun w' hC' => q_skip rfl) (m_q rfl rfl (fun w' hC' => q_skip rfl) (m_q rfl rfl (fun w' hC' => q_pick_f (v := .bool _) rfl rfl rfl) (m_q rfl rfl (fun w' hC' => q_pick_f (v := .bool _) rfl rfl rfl) (m_nil (r_forget [(2, .int _ _), (4, .pointer _), (5, .pointer _), (8, .pointer _), (13, .pointer _), (14, .slice _ _ _), (15, .int _ _), (16, .int _ _), (59, .bool _)] ⟨rfl, rfl, rfl, rfl, rfl, rfl, rfl, rfl, rfl, trivial⟩ (fun e25 => (r_cond_f rfl (r_skip (r_region' (l_q (q_move (v := .pointer _) rfl rfl) (l_q (qmi rfl rfl) (l_q (q_move (v := .pointer _) rfl rfl) (l_q (q_nilCheck rfl rfl) ?_))))))))))))))))))))
      refine l_q (q_fieldAddr (o' := 1) rfl fld56_1 rfl) (l_q (q_load Try.isAgg3 rfl ((hT.has (o := 0 + ((xs).getD k 0).toNat * 2 + 1) (imap (by (try simp only [List.length_set]); omega)))) rfl) (l_q (q_add rfl rfl (by omega) rfl) (l_q (q_build (v := .agg ⟨[vint (wt : Int), vint (((S).getD (0 + ((xs).getD k 0).toNat * 2 + 1) 0) + 1)]⟩) (fun w => by kernel_rfl) rfl) (l_q (q_nilCheck rfl rfl) (l_o (o_store2 Try.sizeOf56 rfl rfl hT (by (try simp only [List.length_set]); omega) rfl ?_))))))
      intro w26 hz26 hT hG26
      replace hB := below_upd hB hG26 hsz (by omega)
      replace hsz : w.heap.size ≤ w26.heap.size := by rw [hz26]; exact hsz
      replace hb1 := hb1.upd hG26 (by omega)
      replace hb3 := hb3.upd hG26 (by omega)
      refine l_nil (r_forget [(2, .int _ _), (4, .pointer _), (5, .pointer _), (8, .pointer _), (14, .slice _ _ _), (15, .int _ _), (16, .int _ _)] ⟨rfl, rfl, rfl, rfl, rfl, rfl, rfl, trivial⟩ (fun e27 => (r_inBlock (r_region' (l_q (q_add rfl rfl (by omega) rfl) (l_q (qmi rfl rfl) (l_nil ?_)))))))
      exact ih4 (k + 1, ((S).set (0 + ((xs).getD k 0).toNat * 2) (wt : Int)).set (0 + ((xs).getD k 0).toNat * 2 + 1) (((S).getD (0 + ((xs).getD k 0).toNat * 2 + 1) 0) + 1)) _ _ ⟨⟨rfl, rfl, rfl, rfl, rfl, rfl, (vint_eq (by omega)), trivial⟩, (by omega), (by simp only [List.length_set]; omega), (setD_b hSb (by omega) (by omega)), (hA.trans (aft_ok hkx (by unfold badD; simp_all))), hT, hb1, hb3, hsz, hB⟩ (by first | omega | (dsimp only; omega))
  ·
   replace hc5 := dlt hc5
   refine r_exit rfl (r_seq (r_region' (l_q (q_load_agg (n := 8) Try.isAgg58 Try.sizeOf58 rfl ((hT.cells0)) (by rw [List.length_map]; (try simp only [List.length_set]); omega) rfl) (l_o (o_store_all (cs' := (S).map vint) Try.sizeOf58 rfl rfl hb3 (rfl) (by rw [List.length_map]; (try simp only [List.length_set]); omega) (all_one_map _ _ (fun _ => rfl)) rfl ?_)))))
   intro w28 hz28 hb3 hG28
   replace hB := below_upd hB hG28 hsz (by omega)
   replace hsz : w.heap.size ≤ w28.heap.size := by rw [hz28]; exact hsz
   refine l_q (qab rfl rfl) (l_nil (r_ret_ (vs := [.agg _, .bool _]) rfl Try.func45 rfl (.nil _) ⟨⟨_, _, rfl, run_loadVarA Try.isAgg58 Try.sizeOf58 (hb3.cells0) (by rw [List.length_map]; (try simp only [List.length_set]); omega)⟩, rfl, trivial⟩ ?_))
   have hkk : k = xs.length := by omega
   subst hkk
   rw [List.drop_length] at hA
   exact ⟨(aft_out (hA.trans (aft_nil _ _ _))).symm, Ext.of_below hB⟩
end Go.Proofs.Ytbikicakdkbcgaa
