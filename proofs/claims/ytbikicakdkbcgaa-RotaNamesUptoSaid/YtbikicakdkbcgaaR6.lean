/- Contracts. -/
import Derived.Test.YtbikicakdkbcgaaR5
import Derived.Test.YtbikicakdkbcgaaGvSpot
set_option linter.unusedVariables false
set_option linter.unusedSimpArgs false
namespace Go.Proofs.Ytbikicakdkbcgaa
open Go Go.RowKit Go.Gv Go.Fl

/-- a post at work in a world: the struct and what hangs on it -/
structure WkH (w : World) (na : Option Addr) (nc : Nat) (nd : List Int) (pa : Option Addr) (pc : Nat) (pl : List PV) (ca : Option Addr) (cc : Nat) (L : List SV) (wb : Nat) (oa : Option Addr) (oc : Nat) (S : List SV) (m : Nat) : Prop where
  po : PoAt w na nc nd pa pc pl ca cc L
  blk : Blk w wb [.slice na nd.length nc, .slice pa pl.length pc, .slice ca L.length cc, .slice oa S.length oc, .map (some m)]
  rS : Row w oa S.length oc 1 (S.map SV.enc)
  rSr : RowsI w S
/-- what can be on duty in a watch, after what has been stood -/
def nxOK (nd : List Int) (pl : List PV) (C : List (List Int)) (wt : Nat) (S0 on : List Int) : Bool := !(decide ((aftL pl wt S0 on).1 = S0) && decide (0 < nd.getD wt 0)) && ((aftL pl wt S0 on).2 && holdsP C (nd.getD wt 0) wt on)
section
variable {nd : List Int} {pl : List PV} {C : List (List Int)} {wt : Nat} {S0 on : List Int}
theorem nx_same (h1 : (aftL pl wt S0 on).1 = S0) (h2 : 0 < nd.getD wt 0) : nxOK nd pl C wt S0 on = false := by unfold nxOK; rw [decide_eq_true h1, decide_eq_true h2]; rfl
theorem nx_rule (h : (aftL pl wt S0 on).2 = false) : nxOK nd pl C wt S0 on = false := by unfold nxOK; rw [h, Bool.false_and, Bool.and_false]
theorem nx_hold (h : holdsP C (nd.getD wt 0) wt on = false) : nxOK nd pl C wt S0 on = false := by unfold nxOK; rw [h, Bool.and_false, Bool.and_false]
theorem nx_ok1 (h1 : ¬ (aftL pl wt S0 on).1 = S0) (h2 : (aftL pl wt S0 on).2 = true) (h3 : holdsP C (nd.getD wt 0) wt on = true) : nxOK nd pl C wt S0 on = true := by unfold nxOK; rw [decide_eq_false h1, h2, h3]; rfl
theorem nx_ok2 (h1 : nd.getD wt 0 ≤ 0) (h2 : (aftL pl wt S0 on).2 = true) (h3 : holdsP C (nd.getD wt 0) wt on = true) : nxOK nd pl C wt S0 on = true := by unfold nxOK; rw [decide_eq_false (by omega : ¬ 0 < nd.getD wt 0), h2, h3, Bool.and_false]; rfl
end

theorem fld90_1 (w : World) (b o : Nat) : (Instr.fieldAt 90 (ptr b o) 1).run Try.prog w = .ok (ptr b (o + 3)) w := by
  simp [Instr.fieldAt, run_underlying Try.underlying90, fieldPlace, Instr.sureAddr, Try.sizeOf22, Addr.add_lit]
theorem fld90_0 (w : World) (b o : Nat) : (Instr.fieldAt 90 (ptr b o) 0).run Try.prog w = .ok (ptr b (o + 0)) w := by
  simp [Instr.fieldAt, run_underlying Try.underlying90, fieldPlace, Instr.sureAddr, Try.sizeOf29, Addr.add_lit]
theorem fld61_1 (w : World) (b o : Nat) : (Instr.fieldAt 61 (ptr b o) 1).run Try.prog w = .ok (ptr b (o + 1)) w := by
  simp [Instr.fieldAt, run_underlying Try.underlying61, fieldPlace, Instr.sureAddr, Try.sizeOf58, Addr.add_lit]
theorem fld61_0 (w : World) (b o : Nat) : (Instr.fieldAt 61 (ptr b o) 0).run Try.prog w = .ok (ptr b (o + 0)) w := by
  simp [Instr.fieldAt, run_underlying Try.underlying61, fieldPlace, Instr.sureAddr, Try.sizeOf3, Addr.add_lit]
theorem spotTy : SpotTy Try.prog 61 58 56 3 := ⟨⟨⟨_, _, Try.underlying56, ⟨by decide, rfl, rfl⟩, ⟨by decide, rfl, rfl⟩⟩, ⟨_, Try.underlying3⟩, Try.isAgg3, Try.isAgg56, Try.sizeOf56, by kernel_rfl, by kernel_rfl, by kernel_rfl⟩,
  ⟨_, _, Try.underlying61, ⟨by decide, rfl, rfl⟩, ⟨by decide, rfl, rfl⟩⟩, Try.underlying58, Try.isAgg58, Try.sizeOf58, by kernel_rfl⟩
theorem spot_build {x : Int} {l : List Int} (h : l.length = 8) (w : World) : (Instr.build 61 ⟨[(0, vint x), (1, .agg ⟨l.map vint⟩)]⟩).run Try.prog w = .ok (.agg ⟨(x :: l).map vint⟩) w := by
  obtain ⟨a0, a1, a2, a3, a4, a5, a6, a7, rfl⟩ := list_eight h
  kernel_rfl
theorem work_ret (na : Option Addr) (nc : Nat) (nd : List Int) (pa : Option Addr) (pc : Nat) (pl : List PV) (ca : Option Addr) (cc : Nat) (L : List SV) (xa : Option Addr) (xc : Nat) (xs : List Int) (w : World) (hx : Row w xa xs.length xc 1 (xs.map vint)) (hxn : xs.length ≤ 2097152) (hx4 : xs.length ≤ 4) : Ret Try.prog 15 [.agg ⟨[.slice na nd.length nc, .slice pa pl.length pc, .slice ca L.length cc]⟩, .slice xa xs.length xc] w (fun v w' => ∃ wb m oa oc S, v = ptr wb 0 ∧ w.heap.size ≤ wb ∧ w.heap.size ≤ m ∧ MapAt w' m [] 0 ∧ Blk w' wb [.slice na nd.length nc, .slice pa pl.length pc, .slice ca L.length cc, .slice oa S.length oc, .map (some m)] ∧ Row w' oa S.length oc 1 (S.map SV.enc) ∧ RowsI w' S ∧ S.map (·.xs) = listsL xs ∧ (∀ x, oa = some x → w.heap.size ≤ x.block) ∧ (∀ s ∈ S, ∀ x, s.a = some x → w.heap.size ≤ x.block) ∧ Ext w w') := by
 have hB := Below.refl w.heap.size w
 have hsz : w.heap.size ≤ w.heap.size := Nat.le_refl _
 refine ret_of_runs (args := [_, _]) Try.func15 rfl (Nat.le_of_ble_eq_true rfl) (by kernel_rfl) (r_seq (r_region' (l_o (o_box rfl rfl rfl ?_))))
 intro b1 w1 hzl1 hzr1 _ hb1 hE1
 have hbs_b1 : w.heap.size ≤ b1 := Nat.le_trans hsz hzl1
 replace hB := below_ext hB hE1 hsz
 replace hsz := Nat.le_trans hsz hE1.size
 refine l_q (q_assign (v := .pointer none) rfl rfl) (l_nil (r_seq (r_draw3 ext_refl' ext_trans' (.op 0 (.op 1 (.fork 2 (.op 3 (.op 4 (.op 5 (.op 6 (.done))))) (.op 3 (.op 2 (.op 4 (.op 5 (.op 6 (.done))))))))) [2, 3, 5, 1005] 9 (by kernel_rfl) (by kernel_rfl) ?_)))
 intro w2 _ hE2
 replace hB := below_ext hB hE2 hsz
 replace hb1 := hb1.ext hE2
 replace hsz := Nat.le_trans hsz hE2.size
 refine m_q3 rfl rfl (fun w' hC' => q_load_agg (n := 3) Try.isAgg29 Try.sizeOf29 rfl (((hb1.cells' (cs' := [_, _, _]) 0 3 rfl).ext hC')) rfl rfl) (m_q3 rfl rfl (fun w' hC' => qms rfl rfl) (m_fork3 ?_ ?_))
 ·
  have hszc := hsz
  refine m_o3 rfl rfl (o_call Try.call32 rfl (lists_ret _ _ xs _ (hx.below hB) (by omega) (by omega)) rfl ?_)
  rintro _ w3 ⟨oa3, oc3, S3, rfl, hS3, hSr3, hSx3, hfo3, hfs3, hE3⟩
  refine ⟨hE3, ?_⟩
  replace hB := below_ext hB hE3 hsz
  replace hsz := Nat.le_trans hsz hE3.size
  refine m_o3 rfl rfl (o_makeMap rfl ?_)
  intro m w4 hml hmr hM hE4
  refine ⟨hE4, ?_⟩
  have hbs_m : w.heap.size ≤ m := Nat.le_trans hsz hml
  replace hB := below_ext hB hE4 hsz
  replace hS3 := hS3.ext hE4
  replace hSr3 := hSr3.ext hE4
  replace hsz := Nat.le_trans hsz hE4.size
  refine m_q3 rfl rfl (fun w' hC' => q_build (v := .agg ⟨[.slice na nd.length nc, .slice pa pl.length pc, .slice ca L.length cc, .slice oa3 S3.length oc3, .map (some m)]⟩) (fun w => by kernel_rfl) rfl) (m_last3 rfl rfl rfl (o_box rfl rfl rfl ?_))
  intro b5 w5 hzl5 hzr5 _ hb5 hE5
  have hbs_b5 : w.heap.size ≤ b5 := Nat.le_trans hsz hzl5
  replace hB := below_ext hB hE5 hsz
  replace hS3 := hS3.ext hE5
  replace hSr3 := hSr3.ext hE5
  replace hM := hM.keep (hE5.block m hM.lt (by simp))
  replace hsz := Nat.le_trans hsz hE5.size
  refine m_q3 rfl rfl (fun w' hC' => q_assign (v := .pointer _) rfl rfl) (m_nil3 (r_ret_ (vs := [.pointer _]) rfl Try.func15 rfl (.nil _) ⟨rfl, trivial⟩ ?_))
  exact ⟨b5, m, oa3, oc3, S3, rfl, hbs_b5, hbs_m, hM, hb5, hS3, hSr3, hSx3, (fun x hx => Nat.le_trans hszc (hfo3 x hx)), (fun s hs x hx => Nat.le_trans hszc (hfs3 s hs x hx)), Ext.of_below hB⟩
 ·
  refine m_o3 rfl rfl (o_makeMap rfl ?_)
  intro m w6 hml hmr hM hE6
  refine ⟨hE6, ?_⟩
  have hbs_m : w.heap.size ≤ m := Nat.le_trans hsz hml
  replace hB := below_ext hB hE6 hsz
  replace hsz := Nat.le_trans hsz hE6.size
  have hszc := hsz
  refine m_o3 rfl rfl (o_call Try.call32 rfl (lists_ret _ _ xs _ (hx.below hB) (by omega) (by omega)) rfl ?_)
  rintro _ w7 ⟨oa7, oc7, S7, rfl, hS7, hSr7, hSx7, hfo7, hfs7, hE7⟩
  refine ⟨hE7, ?_⟩
  replace hB := below_ext hB hE7 hsz
  replace hM := hM.keep (hE7.block m hM.lt (by simp))
  replace hsz := Nat.le_trans hsz hE7.size
  refine m_q3 rfl rfl (fun w' hC' => q_build (v := .agg ⟨[.slice na nd.length nc, .slice pa pl.length pc, .slice ca L.length cc, .slice oa7 S7.length oc7, .map (some m)]⟩) (fun w => by kernel_rfl) rfl) (m_last3 rfl rfl rfl (o_box rfl rfl rfl ?_))
  intro b8 w8 hzl8 hzr8 _ hb8 hE8
  have hbs_b8 : w.heap.size ≤ b8 := Nat.le_trans hsz hzl8
  replace hB := below_ext hB hE8 hsz
  replace hM := hM.keep (hE8.block m hM.lt (by simp))
  replace hS7 := hS7.ext hE8
  replace hSr7 := hSr7.ext hE8
  replace hsz := Nat.le_trans hsz hE8.size
  refine m_q3 rfl rfl (fun w' hC' => q_assign (v := .pointer _) rfl rfl) (m_nil3 (r_ret_ (vs := [.pointer _]) rfl Try.func15 rfl (.nil _) ⟨rfl, trivial⟩ ?_))
  exact ⟨b8, m, oa7, oc7, S7, rfl, hbs_b8, hbs_m, hM, hb8, hS7, hSr7, hSx7, (fun x hx => Nat.le_trans hszc (hfo7 x hx)), (fun s hs x hx => Nat.le_trans hszc (hfs7 s hs x hx)), Ext.of_below hB⟩
theorem next10_ret (wb : Nat) (wt : Nat) (S0 : List Int) (w : World) (hS8 : S0.length = 8) : Ret Try.prog 20 [ptr wb 0, .agg ⟨((wt : Int) :: S0).map vint⟩] w (fun v w' => ∃ b1 b2, v = .func (.func 44) ⟨[]⟩ ⟨[ptr b1 0, ptr b2 0]⟩ ∧ w.heap.size ≤ b1 ∧ w.heap.size ≤ b2 ∧ b1 ≠ b2 ∧ Blk w' b1 [ptr wb 0] ∧ Blk w' b2 (((wt : Int) :: S0).map vint) ∧ Ext w w') := by
 have hB := Below.refl w.heap.size w
 have hsz : w.heap.size ≤ w.heap.size := Nat.le_refl _
 refine ret_of_runs (args := [_, _]) Try.func20 rfl (Nat.le_of_ble_eq_true rfl) (by kernel_rfl) (r_seq (r_region' (l_o (o_box rfl rfl rfl ?_))))
 intro b1 w1 hzl1 hzr1 _ hb1 hE1
 have hbs_b1 : w.heap.size ≤ b1 := Nat.le_trans hsz hzl1
 replace hB := below_ext hB hE1 hsz
 replace hsz := Nat.le_trans hsz hE1.size
 refine l_o (o_box rfl rfl rfl ?_)
 intro b2 w2 hzl2 hzr2 _ hb2 hE2
 have hbs_b2 : w.heap.size ≤ b2 := Nat.le_trans hsz hzl2
 replace hB := below_ext hB hE2 hsz
 replace hb1 := hb1.ext hE2
 replace hsz := Nat.le_trans hsz hE2.size
 refine l_q (q_assign (v := .nilFunc) rfl rfl) (l_nil (r_seq (r_region' (l_q (q_makeFunc (v := .func _ ⟨[]⟩ ⟨[_, _]⟩) rfl rfl) (l_q (q_assign (v := .func _ _ _) rfl rfl) (l_nil (r_ret_ (vs := [.func _ _ _]) rfl Try.func20 rfl (.nil _) ⟨rfl, trivial⟩ ?_)))))))
 exact ⟨b1, b2, rfl, hbs_b1, hbs_b2, by have := hb1.lt; omega, hb1, hb2, Ext.of_below hB⟩
theorem next1w_ret (l b1 b2 : Nat) (na : Option Addr) (nc : Nat) (nd : List Int) (pa : Option Addr) (pc : Nat) (pl : List PV) (ca : Option Addr) (cc : Nat) (L : List SV) (wb : Nat) (oa : Option Addr) (oc : Nat) (S : List SV) (m : Nat) (wt : Nat) (S0 : List Int) (J : Nat → World → Prop) (E : World → Prop) (w : World) (hok : faultP (po nd pl L) = 0) (hS8 : S0.length = 8) (hSb : ∀ v ∈ S0, -1 ≤ v ∧ v ≤ 1000) (hwt : wt < nd.length) (hSn : S.length ≤ 2097152) (hSon : ∀ s ∈ S, s.xs.length ≤ 8 ∧ ∀ i ∈ s.xs, 0 ≤ i ∧ i ≤ (pl.length : Int) - 1) (h0 : J 0 w) (hJb : ∀ k w, J k w → Blk w b1 [ptr wb 0] ∧ Blk w b2 (((wt : Int) :: S0).map vint) ∧ WkH w na nc nd pa pc pl ca cc L wb oa oc S m) (hJs : ∀ k w1 w2, J k w1 → Below w.heap.size w1 w2 → J k w2) (hskip : ∀ k w1, k < S.length → J k w1 → nxOK nd pl (L.map (·.xs)) wt S0 (S.getD k sv0).xs = false → J (k + 1) w1) (hy : ∀ k w1, k < S.length → J k w1 → w.heap.size ≤ w1.heap.size → nxOK nd pl (L.map (·.xs)) wt S0 (S.getD k sv0).xs = true → YieldAt Try.prog l [(S.getD k sv0).enc, .agg ⟨(((wt : Int) + 1) :: (aftL pl wt S0 (S.getD k sv0).xs).1).map vint⟩] w1 (fun v w2 => ∃ y : Bool, v = .bool y ∧ (y = true → J (k + 1) w2) ∧ (y = false → E w2) ∧ w1.heap.size ≤ w2.heap.size)) : Ret Try.prog 44 [.func (.yield l) ⟨[]⟩ ⟨[]⟩, ptr b1 0, ptr b2 0] w (fun v w' => J S.length w' ∨ E w') := by
 obtain ⟨⟨hn1, hn5⟩, ⟨hp1, hp4⟩, hL4, hnn, hpp, hLL⟩ := po_ok hok
 have hJ := h0
 have hsz : w.heap.size ≤ w.heap.size := Nat.le_refl _
 refine ret_of_runs (args := [_, _, _]) Try.func44 rfl (Nat.le_of_ble_eq_true rfl) (by kernel_rfl) (r_seq (r_region' (l_q (q_load Try.isAgg51 rfl (((hJb _ _ hJ).1.has (o := 0) rfl)) rfl) (l_q (q_nilCheck rfl rfl) (l_q (q_fieldAddr (o' := 3) rfl fld90_1 rfl) (l_q (q_load Try.isAgg22 rfl (((hJb _ _ hJ).2.2.blk.has (o := 3) rfl)) rfl) (l_q (q_len rfl Try.underlying22 rfl rfl) (l_q (qmi rfl rfl) (l_nil (r_block (r_rounds (α := Nat) (fun k e wl => Knows e [(0, .func (.yield l) ⟨[]⟩ ⟨[]⟩), (1, ptr b1 0), (2, ptr b2 0), (11, .slice oa S.length oc), (12, vint (S.length : Int)), (13, vint (k : Int))] ∧ (k ≤ S.length) ∧ (J k wl) ∧ (w.heap.size ≤ wl.heap.size)) (fun k => S.length - k) 0 ?_ ?_)))))))))))
 ·
  exact ⟨⟨rfl, rfl, rfl, rfl, rfl, rfl, trivial⟩, (Nat.zero_le _), hJ, hsz⟩
 ·
  rintro k el1 wl1 ⟨hkn, hkk, hJ, hsz⟩ ih1
  obtain ⟨e1, rfl⟩ := knows_env hkn
  refine r_seq (r_region' (l_q (q_lss rfl rfl rfl) (l_nil (r_seq (r_cond rfl (fun hc2 => ?_) (fun hc2 => ?_))))))
  ·
   replace hc2 := dt hc2
   have hkS : k < S.length := by omega
   have hSk := hSon _ (getD_lt (l := S) (d := sv0) hkS)
   refine r_skip (r_seq (r_block (r_seq (r_region' ?_))))
   obtain ⟨b3, o3, ha3, hh3⟩ := (hJb _ _ hJ).2.2.rS.at1 k ((S).getD k sv0) (getD_some (by omega))
   refine l_q (q_indexAddr1 Try.underlying22 Try.sizeOf26 rfl ha3 rfl (by omega) rfl) (l_q (q_load Try.isAgg26 rfl (hh3) rfl) (l_q (qas rfl rfl) (l_nil (r_seq ?_))))
   have hszR : w.heap.size ≤ wl1.heap.size := hsz
   have hszW : wl1.heap.size ≤ wl1.heap.size := Nat.le_refl _
   refine r_draw3 (Below.refl wl1.heap.size) (fun _ _ _ h1 h2 => h1.trans h2) (.op 0 (.op 1 (.op 2 (.op 3 (.op 4 (.op 5 (.op 6 (.op 7 (.op 8 (.fork 9 (.op 10 (.op 11 (.op 12 (.op 13 (.op 14 (.op 15 (.done))))))) (.op 13 (.op 9 (.op 10 (.op 11 (.op 12 (.op 14 (.op 15 (.done)))))))))))))))))) [9, 13, 14] 20 (by kernel_rfl) (by kernel_rfl) ?_
   intro w4 _ hE4
   replace hJ := hJs _ _ _ hJ (below_ext_of hE4 hsz)
   replace hszW := Nat.le_trans hszW hE4.size
   replace hsz := Nat.le_trans hsz hE4.size
   refine m_q3 rfl rfl (fun w' hC' => q_load Try.isAgg51 rfl (((hJb _ _ (hJs _ _ _ hJ (hC'.mono hszR))).1.has (o := 0) rfl)) rfl) (m_q3 rfl rfl (fun w' hC' => q_nilCheck rfl rfl) (m_q3 rfl rfl (fun w' hC' => q_fieldAddr (o' := 0) rfl fld90_0 rfl) (m_q3 rfl rfl (fun w' hC' => q_load_agg (n := 3) Try.isAgg29 Try.sizeOf29 rfl (((hJb _ _ (hJs _ _ _ hJ (hC'.mono hszR))).2.2.blk.cells' (cs' := [_, _, _]) 0 3 rfl)) rfl rfl) (m_q3 rfl rfl (fun w' hC' => q_fieldAddr (o' := 1) rfl fld61_1 rfl) (m_q3 rfl rfl (fun w' hC' => q_load_agg (n := 8) Try.isAgg58 Try.sizeOf58 rfl (((hJb _ _ (hJs _ _ _ hJ (hC'.mono hszR))).2.1.tail)) (by rw [List.length_map]; exact hS8) rfl) (m_q3 rfl rfl (fun w' hC' => q_fieldAddr (o' := 0) rfl fld61_0 rfl) (m_q3 rfl rfl (fun w' hC' => q_load Try.isAgg3 rfl (((hJb _ _ (hJs _ _ _ hJ (hC'.mono hszR))).2.1.has (o := 0) rfl)) rfl) (m_q3 rfl rfl (fun w' hC' => qms rfl rfl) (m_fork3 ?_ ?_)))))))))
   ·
    refine m_o3 rfl rfl (o_call Try.call45 rfl (after_ret na nc nd pa pc pl ca cc L S0 wt _ _ ((S.getD k sv0).xs) _ (hJb _ _ hJ).2.2.po hok (by omega) hSb (by omega) (RowsI.get ((hJb _ _ hJ).2.2.rSr) (i := k) (by omega)) (by omega) hSk.2 hSk.1) rfl ?_)
    rintro _ w5 ⟨rfl, hE5⟩
    refine ⟨(below_ext_of hE5 hszW), ?_⟩
    replace hJ := hJs _ _ _ hJ (below_ext_of hE5 hsz)
    replace hszW := Nat.le_trans hszW hE5.size
    replace hsz := Nat.le_trans hsz hE5.size
    refine m_q3 rfl rfl (fun w' hC' => q_move (v := .tuple _) rfl rfl) (m_q3 rfl rfl (fun w' hC' => q_extract (vs := [_, _]) (v := .agg _) rfl rfl rfl) (m_q3 rfl rfl (fun w' hC' => q_extract (vs := [_, _]) (v := .bool _) rfl rfl rfl) (m_o3 rfl rfl (o_alloc Try.zeroValue58 rfl rfl ?_))))
    intro b6 w6 hzl6 hzr6 _ hb6 hE6
    refine ⟨(below_ext_of hE6 hszW), ?_⟩
    have hne_b1_b6 : b1 ≠ b6 := by have := (hJb _ _ hJ).1.lt; omega
    have hne_b2_b6 : b2 ≠ b6 := by have := (hJb _ _ hJ).2.1.lt; omega
    have hne_wb_b6 : wb ≠ b6 := by have := (hJb _ _ hJ).2.2.blk.lt; omega
    have hbs_b6 : w.heap.size ≤ b6 := Nat.le_trans hsz hzl6
    have hWp_b6 := hszW
    have hbW_b6 := Nat.le_trans hszW hzl6
    replace hJ := hJs _ _ _ hJ (below_ext_of hE6 hsz)
    replace hszW := Nat.le_trans hszW hE6.size
    replace hsz := Nat.le_trans hsz hE6.size
    refine m_o3 rfl rfl (o_store_all (cs' := (aftL pl wt S0 ((S.getD k sv0).xs)).1.map vint) Try.sizeOf58 rfl rfl hb6 (rfl) (by rw [List.length_map, aft_len]; omega) (all_one_map _ _ (fun _ => rfl)) rfl ?_)
    intro w7 hz7 hb6 hG7
    refine ⟨(below_upd_of hG7 hbW_b6 hszW), ?_⟩
    replace hsz : w.heap.size ≤ w7.heap.size := by rw [hz7]; exact hsz
    replace hJ := hJs _ _ _ hJ (below_upd_of hG7 hbs_b6 (by omega))
    replace hszW := Nat.le_trans hszW hG7.size
    refine m_q3 rfl rfl (fun w' hC' => qab rfl rfl) (m_nil3 (r_forget [(0, .func (.yield l) ⟨[]⟩ ⟨[]⟩), (1, .pointer _), (2, .pointer _), (5, .slice _ _ _), (6, .pointer _), (7, .bool _), (11, .slice _ _ _), (12, .int _ _), (13, .int _ _)] ⟨rfl, rfl, rfl, rfl, rfl, rfl, rfl, rfl, rfl, trivial⟩ (fun e8 => (r_seq (r_seq (r_draw ext_refl' ext_trans' [0, 1, 2, 3, 4, 5, 6, 7, 8, 9, 10, 11, 12, 13, 14, 15] [] 20 (by kernel_rfl) (by kernel_rfl) ?_))))))
    intro w9 _ hE9
    replace hJ := hJs _ _ _ hJ (below_ext_of hE9 hsz)
    replace hb6 := hb6.ext hE9
    replace hsz := Nat.le_trans hsz hE9.size
    refine m_q rfl rfl (fun w' hC' => q_load_agg (n := 8) Try.isAgg58 Try.sizeOf58 rfl (((hb6.cells0).ext hC')) (by rw [List.length_map, aft_len]; omega) rfl) (m_q rfl rfl (fun w' hC' => q_fieldAddr (o' := 1) rfl fld61_1 rfl) (m_q rfl rfl (fun w' hC' => q_load_agg (n := 8) Try.isAgg58 Try.sizeOf58 rfl ((((hJb _ _ hJ).2.1.tail).ext hC')) (by rw [List.length_map]; exact hS8) rfl) (m_q rfl rfl (fun w' hC' => q_eql_stood spotTy (by kernel_rfl) rfl rfl (by rw [aft_len]; omega) (by exact hS8) rfl) (m_q rfl rfl (fun w' hC' => qmb rfl rfl) (m_part 34 rfl (fun hc10 => ?_) (fun hc10 => ?_))))))
    ·
     replace hc10 := dt hc10
     have g34 := hc10
     refine m_q rfl rfl (fun w' hC' => q_load Try.isAgg51 rfl ((((hJb _ _ hJ).1.has (o := 0) rfl).ext hC')) rfl) (m_q rfl rfl (fun w' hC' => q_nilCheck rfl rfl) (m_q rfl rfl (fun w' hC' => q_fieldAddr (o' := 0) rfl fld90_0 rfl) (m_q rfl rfl (fun w' hC' => q_fieldAddr (o' := 0) rfl fld29_0 rfl) (m_q rfl rfl (fun w' hC' => q_load Try.isAgg26 rfl ((((hJb _ _ hJ).2.2.blk.has (o := 0) rfl).ext hC')) rfl) (m_q rfl rfl (fun w' hC' => q_fieldAddr (o' := 0) rfl fld61_0 rfl) (m_q rfl rfl (fun w' hC' => q_load Try.isAgg3 rfl ((((hJb _ _ hJ).2.1.has (o := 0) rfl).ext hC')) rfl) ?_))))))
     obtain ⟨b11, o11, ha11, hh11⟩ := (hJb _ _ hJ).2.2.po.rnd.at1 wt ((nd).getD wt 0) (getD_some (by omega))
     refine m_q rfl rfl (fun w' hC' => q_indexAddr1 Try.underlying26 Try.sizeOf3 rfl ha11 rfl (by omega) rfl) (m_q rfl rfl (fun w' hC' => q_load Try.isAgg3 rfl ((hh11.ext hC')) rfl) (m_q rfl rfl (fun w' hC' => q_gtr rfl rfl rfl) (m_q rfl rfl (fun w' hC' => q_pick_t (v := .bool _) rfl rfl rfl) (m_nil (r_forget [(0, .func (.yield l) ⟨[]⟩ ⟨[]⟩), (1, .pointer _), (2, .pointer _), (5, .slice _ _ _), (6, .pointer _), (7, .bool _), (11, .slice _ _ _), (12, .int _ _), (13, .int _ _), (45, .bool _)] ⟨rfl, rfl, rfl, rfl, rfl, rfl, rfl, rfl, rfl, rfl, trivial⟩ (fun e12 => (r_cond rfl (fun hc13 => ?_) (fun hc13 => ?_))))))))
     ·
      replace hc13 := dt hc13
      have hJn := hskip k _ hkS hJ (nx_same g34 hc13)
      refine r_exit rfl (r_region' (l_q (q_add rfl rfl (by omega) rfl) (l_q (qmi rfl rfl) (l_nil ?_))))
      exact ih1 (k + 1) _ _ ⟨⟨rfl, rfl, rfl, rfl, rfl, by first | rfl | exact vint_eq (by omega), trivial⟩, (by omega), hJn, hsz⟩ (by first | omega | (dsimp only; omega))
     ·
      replace hc13 := dlt hc13
      have g45 := hc13
      refine r_skip (r_seq (r_draw ext_refl' ext_trans' [0, 1, 2, 3, 4, 5, 6, 7, 8, 9, 10, 11, 12, 13, 14, 15, 16, 17, 18, 19, 20, 21] [9, 19, 1019] 24 (by kernel_rfl) (by kernel_rfl) ?_))
      intro w14 _ hE14
      replace hJ := hJs _ _ _ hJ (below_ext_of hE14 hsz)
      replace hb6 := hb6.ext hE14
      replace hsz := Nat.le_trans hsz hE14.size
      refine m_q rfl rfl (fun w' hC' => qmb rfl rfl) (m_q rfl rfl (fun w' hC' => qmb rfl rfl) (m_part 47 rfl (fun hc15 => ?_) (fun hc15 => ?_)))
      ·
       have g47 := hc15
       refine m_q rfl rfl (fun w' hC' => q_load Try.isAgg51 rfl ((((hJb _ _ hJ).1.has (o := 0) rfl).ext hC')) rfl) (m_q rfl rfl (fun w' hC' => q_nilCheck rfl rfl) (m_q rfl rfl (fun w' hC' => q_fieldAddr (o' := 0) rfl fld90_0 rfl) (m_q rfl rfl (fun w' hC' => q_load_agg (n := 3) Try.isAgg29 Try.sizeOf29 rfl ((((hJb _ _ hJ).2.2.blk.cells' (cs' := [_, _, _]) 0 3 rfl).ext hC')) rfl rfl) (m_q rfl rfl (fun w' hC' => qms rfl rfl) (m_q rfl rfl (fun w' hC' => q_fieldAddr (o' := 0) rfl fld61_0 rfl) (m_q rfl rfl (fun w' hC' => q_load Try.isAgg3 rfl ((((hJb _ _ hJ).2.1.has (o := 0) rfl).ext hC')) rfl) (m_o rfl rfl (o_call Try.call31 rfl (holds_ret na nc nd pa pc pl ca cc L _ _ (S.getD k sv0).xs wt _ (hJb _ _ hJ).2.2.po hok (RowsI.get ((hJb _ _ hJ).2.2.rSr) (i := k) (by omega)) (by omega) hSk.2 hwt) rfl ?_))))))))
       rintro _ w16 ⟨rfl, hE16⟩
       refine ⟨hE16, ?_⟩
       replace hJ := hJs _ _ _ hJ (below_ext_of hE16 hsz)
       replace hb6 := hb6.ext hE16
       replace hsz := Nat.le_trans hsz hE16.size
       refine m_q rfl rfl (fun w' hC' => q_pick_t (v := .bool _) rfl rfl rfl) (m_q rfl rfl (fun w' hC' => qmb rfl rfl) (m_part 57 rfl (fun hc17 => ?_) (fun hc17 => ?_)))
       ·
        have g57 := hc17
        have hnx : nxOK nd pl (L.map (·.xs)) wt S0 (S.getD k sv0).xs = true := by first | exact nx_ok1 g34 g47 g57 | exact nx_ok2 g45 g47 g57
        refine m_q rfl rfl (fun w' hC' => q_move (v := .func (.yield l) ⟨[]⟩ ⟨[]⟩) rfl rfl) (m_q rfl rfl (fun w' hC' => qms rfl rfl) (m_q rfl rfl (fun w' hC' => q_fieldAddr (o' := 0) rfl fld61_0 rfl) (m_q rfl rfl (fun w' hC' => q_load Try.isAgg3 rfl ((((hJb _ _ hJ).2.1.has (o := 0) rfl).ext hC')) rfl) (m_q rfl rfl (fun w' hC' => q_add rfl rfl (by omega) rfl) (m_q rfl rfl (fun w' hC' => q_load_agg (n := 8) Try.isAgg58 Try.sizeOf58 rfl (((hb6.cells0).ext hC')) (by rw [List.length_map, aft_len]; omega) rfl) (m_q rfl rfl (fun w' hC' => q_build (v := .agg ⟨(((wt : Int) + 1 : Int) :: ((aftL pl wt S0 ((S.getD k sv0).xs)).1)).map vint⟩) (spot_build (by rw [aft_len]; omega)) rfl) (m_last rfl rfl rfl (o_yield rfl rfl (hy k _ (by omega) hJ (by omega) hnx) rfl ?_))))))))
        rintro _ w18 ⟨y65, rfl, hJy, hEy, hzy⟩
        replace hsz := Nat.le_trans hsz hzy
        refine m_q rfl rfl (fun w' hC' => q_not rfl rfl) (m_q rfl rfl (fun w' hC' => q_pick_t (v := .bool _) rfl rfl rfl) (m_nil (r_forget [(0, .func (.yield l) ⟨[]⟩ ⟨[]⟩), (1, .pointer _), (2, .pointer _), (11, .slice _ _ _), (12, .int _ _), (13, .int _ _), (67, .bool _)] ⟨rfl, rfl, rfl, rfl, rfl, rfl, rfl, trivial⟩ (fun e19 => (r_cond rfl (fun hc20 => ?_) (fun hc20 => ?_))))))
        ·
         replace hc20 := nt hc20
         have hE2 := hEy hc20
         refine r_ret_ (vs := []) rfl Try.func44 rfl (.nil _) trivial ?_
         exact .inr hE2
        ·
         replace hc20 := nf hc20
         have hJn := hJy hc20
         refine r_skip (r_inBlock (r_region' (l_q (q_add rfl rfl (by omega) rfl) (l_q (qmi rfl rfl) (l_nil ?_)))))
         exact ih1 (k + 1) _ _ ⟨⟨rfl, rfl, rfl, rfl, rfl, by first | rfl | exact vint_eq (by omega), trivial⟩, (by omega), hJn, hsz⟩ (by first | omega | (dsimp only; omega))
       ·
        have hJn := hskip k _ hkS hJ (nx_hold hc17)
        refine m_q rfl rfl (fun w' hC' => q_skip rfl) (m_q rfl rfl (fun w' hC' => q_skip rfl) (m_q rfl rfl (fun w' hC' => q_skip rfl) (m_q rfl rfl (fun w' hC' => q_skip rfl) (m_q rfl rfl (fun w' hC' => q_skip rfl) (m_q rfl rfl (fun w' hC' => q_skip rfl) (m_q rfl rfl (fun w' hC' => q_skip rfl) (m_o rfl rfl ((q_skip rfl).eff ⟨Ext.refl _, ?_⟩))))))))
        refine m_q rfl rfl (fun w' hC' => q_skip rfl) (m_q rfl rfl (fun w' hC' => q_pick_f (v := .bool _) rfl rfl rfl) (m_nil (r_forget [(0, .func (.yield l) ⟨[]⟩ ⟨[]⟩), (1, .pointer _), (2, .pointer _), (11, .slice _ _ _), (12, .int _ _), (13, .int _ _), (67, .bool _)] ⟨rfl, rfl, rfl, rfl, rfl, rfl, rfl, trivial⟩ (fun e21 => (r_cond_f rfl (r_skip (r_inBlock (r_region' (l_q (q_add rfl rfl (by omega) rfl) (l_q (qmi rfl rfl) (l_nil ?_)))))))))))
        exact ih1 (k + 1) _ _ ⟨⟨rfl, rfl, rfl, rfl, rfl, by first | rfl | exact vint_eq (by omega), trivial⟩, (by omega), hJn, hsz⟩ (by first | omega | (dsimp only; omega))
      ·
       have hJn := hskip k _ hkS hJ (nx_rule hc15)
       refine m_q rfl rfl (fun w' hC' => q_skip rfl) (m_q rfl rfl (fun w' hC' => q_skip rfl) (m_q rfl rfl (fun w' hC' => q_skip rfl) (m_q rfl rfl (fun w' hC' => q_skip rfl) (m_q rfl rfl (fun w' hC' => q_skip rfl) (m_q rfl rfl (fun w' hC' => q_skip rfl) (m_q rfl rfl (fun w' hC' => q_skip rfl) (m_o rfl rfl ((q_skip rfl).eff ⟨Ext.refl _, ?_⟩))))))))
       refine m_q rfl rfl (fun w' hC' => q_pick_f (v := .bool _) rfl rfl rfl) (m_q rfl rfl (fun w' hC' => qmb rfl rfl) (m_q rfl rfl (fun w' hC' => q_skip rfl) (m_q rfl rfl (fun w' hC' => q_skip rfl) (m_q rfl rfl (fun w' hC' => q_skip rfl) (m_q rfl rfl (fun w' hC' => q_skip rfl) (m_q rfl rfl (fun w' hC' => q_skip rfl) (m_q rfl rfl (fun w' hC' => q_skip rfl) (m_q rfl rfl (fun w' hC' => q_skip rfl) (m_o rfl rfl ((q_skip rfl).eff ⟨Ext.refl _, ?_⟩))))))))))
       refine m_q rfl rfl (fun w' hC' => q_skip rfl) (m_q rfl rfl (fun w' hC' => q_pick_f (v := .bool _) rfl rfl rfl) (m_nil (r_forget [(0, .func (.yield l) ⟨[]⟩ ⟨[]⟩), (1, .pointer _), (2, .pointer _), (11, .slice _ _ _), (12, .int _ _), (13, .int _ _), (67, .bool _)] ⟨rfl, rfl, rfl, rfl, rfl, rfl, rfl, trivial⟩ (fun e22 => (r_cond_f rfl (r_skip (r_inBlock (r_region' (l_q (q_add rfl rfl (by omega) rfl) (l_q (qmi rfl rfl) (l_nil ?_)))))))))))
       exact ih1 (k + 1) _ _ ⟨⟨rfl, rfl, rfl, rfl, rfl, by first | rfl | exact vint_eq (by omega), trivial⟩, (by omega), hJn, hsz⟩ (by first | omega | (dsimp only; omega))
    ·
     replace hc10 := df hc10
     have g34 := hc10
     refine m_q rfl rfl (fun w' hC' => q_skip rfl) (m_q rfl rfl (fun w' hC' => q_skip rfl) (m_q rfl rfl (fun w' hC' => q_skip rfl) (m_q rfl rfl (fun w' hC' => q_skip rfl) (m_q rfl rfl (fun w' hC' => q_skip rfl) (m_q rfl rfl (fun w' hC' => q_skip rfl) (m_q rfl rfl (fun w' hC' => q_skip rfl) (m_q rfl rfl (fun w' hC' => q_skip rfl) (m_q rfl rfl (fun w' hC' => q_skip rfl) (m_q rfl rfl (fun w' hC' => q_skip rfl) (m_q rfl rfl (fun w' hC' => q_pick_f (v := .bool _) rfl rfl rfl) (m_nil (r_forget [(0, .func (.yield l) ⟨[]⟩ ⟨[]⟩), (1, .pointer _), (2, .pointer _), (5, .slice _ _ _), (6, .pointer _), (7, .bool _), (11, .slice _ _ _), (12, .int _ _), (13, .int _ _), (45, .bool _)] ⟨rfl, rfl, rfl, rfl, rfl, rfl, rfl, rfl, rfl, rfl, trivial⟩ (fun e23 => (r_cond_f rfl (r_skip (r_seq ?_))))))))))))))))
     refine r_draw ext_refl' ext_trans' [0, 1, 2, 3, 4, 5, 6, 7, 8, 9, 10, 11, 12, 13, 14, 15, 16, 17, 18, 19, 20, 21] [9, 19, 1019] 24 (by kernel_rfl) (by kernel_rfl) ?_
     intro w24 _ hE24
     replace hJ := hJs _ _ _ hJ (below_ext_of hE24 hsz)
     replace hb6 := hb6.ext hE24
     replace hsz := Nat.le_trans hsz hE24.size
     refine m_q rfl rfl (fun w' hC' => qmb rfl rfl) (m_q rfl rfl (fun w' hC' => qmb rfl rfl) (m_part 47 rfl (fun hc25 => ?_) (fun hc25 => ?_)))
     ·
      have g47 := hc25
      refine m_q rfl rfl (fun w' hC' => q_load Try.isAgg51 rfl ((((hJb _ _ hJ).1.has (o := 0) rfl).ext hC')) rfl) (m_q rfl rfl (fun w' hC' => q_nilCheck rfl rfl) (m_q rfl rfl (fun w' hC' => q_fieldAddr (o' := 0) rfl fld90_0 rfl) (m_q rfl rfl (fun w' hC' => q_load_agg (n := 3) Try.isAgg29 Try.sizeOf29 rfl ((((hJb _ _ hJ).2.2.blk.cells' (cs' := [_, _, _]) 0 3 rfl).ext hC')) rfl rfl) (m_q rfl rfl (fun w' hC' => qms rfl rfl) (m_q rfl rfl (fun w' hC' => q_fieldAddr (o' := 0) rfl fld61_0 rfl) (m_q rfl rfl (fun w' hC' => q_load Try.isAgg3 rfl ((((hJb _ _ hJ).2.1.has (o := 0) rfl).ext hC')) rfl) (m_o rfl rfl (o_call Try.call31 rfl (holds_ret na nc nd pa pc pl ca cc L _ _ (S.getD k sv0).xs wt _ (hJb _ _ hJ).2.2.po hok (RowsI.get ((hJb _ _ hJ).2.2.rSr) (i := k) (by omega)) (by omega) hSk.2 hwt) rfl ?_))))))))
      rintro _ w26 ⟨rfl, hE26⟩
      refine ⟨hE26, ?_⟩
      replace hJ := hJs _ _ _ hJ (below_ext_of hE26 hsz)
      replace hb6 := hb6.ext hE26
      replace hsz := Nat.le_trans hsz hE26.size
      refine m_q rfl rfl (fun w' hC' => q_pick_t (v := .bool _) rfl rfl rfl) (m_q rfl rfl (fun w' hC' => qmb rfl rfl) (m_part 57 rfl (fun hc27 => ?_) (fun hc27 => ?_)))
      ·
       have g57 := hc27
       have hnx : nxOK nd pl (L.map (·.xs)) wt S0 (S.getD k sv0).xs = true := by first | exact nx_ok1 g34 g47 g57 | exact nx_ok2 g45 g47 g57
       refine m_q rfl rfl (fun w' hC' => q_move (v := .func (.yield l) ⟨[]⟩ ⟨[]⟩) rfl rfl) (m_q rfl rfl (fun w' hC' => qms rfl rfl) (m_q rfl rfl (fun w' hC' => q_fieldAddr (o' := 0) rfl fld61_0 rfl) (m_q rfl rfl (fun w' hC' => q_load Try.isAgg3 rfl ((((hJb _ _ hJ).2.1.has (o := 0) rfl).ext hC')) rfl) (m_q rfl rfl (fun w' hC' => q_add rfl rfl (by omega) rfl) (m_q rfl rfl (fun w' hC' => q_load_agg (n := 8) Try.isAgg58 Try.sizeOf58 rfl (((hb6.cells0).ext hC')) (by rw [List.length_map, aft_len]; omega) rfl) (m_q rfl rfl (fun w' hC' => q_build (v := .agg ⟨(((wt : Int) + 1 : Int) :: ((aftL pl wt S0 ((S.getD k sv0).xs)).1)).map vint⟩) (spot_build (by rw [aft_len]; omega)) rfl) (m_last rfl rfl rfl (o_yield rfl rfl (hy k _ (by omega) hJ (by omega) hnx) rfl ?_))))))))
       rintro _ w28 ⟨y65, rfl, hJy, hEy, hzy⟩
       replace hsz := Nat.le_trans hsz hzy
       refine m_q rfl rfl (fun w' hC' => q_not rfl rfl) (m_q rfl rfl (fun w' hC' => q_pick_t (v := .bool _) rfl rfl rfl) (m_nil (r_forget [(0, .func (.yield l) ⟨[]⟩ ⟨[]⟩), (1, .pointer _), (2, .pointer _), (11, .slice _ _ _), (12, .int _ _), (13, .int _ _), (67, .bool _)] ⟨rfl, rfl, rfl, rfl, rfl, rfl, rfl, trivial⟩ (fun e29 => (r_cond rfl (fun hc30 => ?_) (fun hc30 => ?_))))))
       ·
        replace hc30 := nt hc30
        have hE2 := hEy hc30
        refine r_ret_ (vs := []) rfl Try.func44 rfl (.nil _) trivial ?_
        exact .inr hE2
       ·
        replace hc30 := nf hc30
        have hJn := hJy hc30
        refine r_skip (r_inBlock (r_region' (l_q (q_add rfl rfl (by omega) rfl) (l_q (qmi rfl rfl) (l_nil ?_)))))
        exact ih1 (k + 1) _ _ ⟨⟨rfl, rfl, rfl, rfl, rfl, by first | rfl | exact vint_eq (by omega), trivial⟩, (by omega), hJn, hsz⟩ (by first | omega | (dsimp only; omega))
      ·
       have hJn := hskip k _ hkS hJ (nx_hold hc27)
       refine m_q rfl rfl (fun w' hC' => q_skip rfl) (m_q rfl rfl (fun w' hC' => q_skip rfl) (m_q rfl rfl (fun w' hC' => q_skip rfl) (m_q rfl rfl (fun w' hC' => q_skip rfl) (m_q rfl rfl (fun w' hC' => q_skip rfl) (m_q rfl rfl (fun w' hC' => q_skip rfl) (m_q rfl rfl (fun w' hC' => q_skip rfl) (m_o rfl rfl ((q_skip rfl).eff ⟨Ext.refl _, ?_⟩))))))))
       refine m_q rfl rfl (fun w' hC' => q_skip rfl) (m_q rfl rfl (fun w' hC' => q_pick_f (v := .bool _) rfl rfl rfl) (m_nil (r_forget [(0, .func (.yield l) ⟨[]⟩ ⟨[]⟩), (1, .pointer _), (2, .pointer _), (11, .slice _ _ _), (12, .int _ _), (13, .int _ _), (67, .bool _)] ⟨rfl, rfl, rfl, rfl, rfl, rfl, rfl, trivial⟩ (fun e31 => (r_cond_f rfl (r_skip (r_inBlock (r_region' (l_q (q_add rfl rfl (by omega) rfl) (l_q (qmi rfl rfl) (l_nil ?_)))))))))))
       exact ih1 (k + 1) _ _ ⟨⟨rfl, rfl, rfl, rfl, rfl, by first | rfl | exact vint_eq (by omega), trivial⟩, (by omega), hJn, hsz⟩ (by first | omega | (dsimp only; omega))
     ·
      have hJn := hskip k _ hkS hJ (nx_rule hc25)
      refine m_q rfl rfl (fun w' hC' => q_skip rfl) (m_q rfl rfl (fun w' hC' => q_skip rfl) (m_q rfl rfl (fun w' hC' => q_skip rfl) (m_q rfl rfl (fun w' hC' => q_skip rfl) (m_q rfl rfl (fun w' hC' => q_skip rfl) (m_q rfl rfl (fun w' hC' => q_skip rfl) (m_q rfl rfl (fun w' hC' => q_skip rfl) (m_o rfl rfl ((q_skip rfl).eff ⟨Ext.refl _, ?_⟩))))))))
      refine m_q rfl rfl (fun w' hC' => q_pick_f (v := .bool _) rfl rfl rfl) (m_q rfl rfl (fun w' hC' => qmb rfl rfl) (m_q rfl rfl (fun w' hC' => q_skip rfl) (m_q rfl rfl (fun w' hC' => q_skip rfl) (m_q rfl rfl (fun w' hC' => q_skip rfl) (m_q rfl rfl (fun w' hC' => q_skip rfl) (m_q rfl rfl (fun w' hC' => q_skip rfl) (m_q rfl rfl (fun w' hC' => q_skip rfl) (m_q rfl rfl (fun w' hC' => q_skip rfl) (m_o rfl rfl ((q_skip rfl).eff ⟨Ext.refl _, ?_⟩))))))))))
      refine m_q rfl rfl (fun w' hC' => q_skip rfl) (m_q rfl rfl (fun w' hC' => q_pick_f (v := .bool _) rfl rfl rfl) (m_nil (r_forget [(0, .func (.yield l) ⟨[]⟩ ⟨[]⟩), (1, .pointer _), (2, .pointer _), (11, .slice _ _ _), (12, .int _ _), (13, .int _ _), (67, .bool _)] ⟨rfl, rfl, rfl, rfl, rfl, rfl, rfl, trivial⟩ (fun e32 => (r_cond_f rfl (r_skip (r_inBlock (r_region' (l_q (q_add rfl rfl (by omega) rfl) (l_q (qmi rfl rfl) (l_nil ?_)))))))))))
      exact ih1 (k + 1) _ _ ⟨⟨rfl, rfl, rfl, rfl, rfl, by first | rfl | exact vint_eq (by omega), trivial⟩, (by omega), hJn, hsz⟩ (by first | omega | (dsimp only; omega))
   ·
    refine m_o3 rfl rfl (o_alloc Try.zeroValue58 rfl rfl ?_)
    intro b33 w33 hzl33 hzr33 _ hb33 hE33
    refine ⟨(below_ext_of hE33 hszW), ?_⟩
    have hne_b1_b33 : b1 ≠ b33 := by have := (hJb _ _ hJ).1.lt; omega
    have hne_b2_b33 : b2 ≠ b33 := by have := (hJb _ _ hJ).2.1.lt; omega
    have hne_wb_b33 : wb ≠ b33 := by have := (hJb _ _ hJ).2.2.blk.lt; omega
    have hbs_b33 : w.heap.size ≤ b33 := Nat.le_trans hsz hzl33
    have hWp_b33 := hszW
    have hbW_b33 := Nat.le_trans hszW hzl33
    replace hJ := hJs _ _ _ hJ (below_ext_of hE33 hsz)
    replace hszW := Nat.le_trans hszW hE33.size
    replace hsz := Nat.le_trans hsz hE33.size
    refine m_o3 rfl rfl (o_call Try.call45 rfl (after_ret na nc nd pa pc pl ca cc L S0 wt _ _ ((S.getD k sv0).xs) _ (hJb _ _ hJ).2.2.po hok (by omega) hSb (by omega) (RowsI.get ((hJb _ _ hJ).2.2.rSr) (i := k) (by omega)) (by omega) hSk.2 hSk.1) rfl ?_)
    rintro _ w34 ⟨rfl, hE34⟩
    refine ⟨(below_ext_of hE34 hszW), ?_⟩
    replace hJ := hJs _ _ _ hJ (below_ext_of hE34 hsz)
    replace hszW := Nat.le_trans hszW hE34.size
    replace hb33 := hb33.ext hE34
    replace hsz := Nat.le_trans hsz hE34.size
    refine m_q3 rfl rfl (fun w' hC' => q_move (v := .tuple _) rfl rfl) (m_q3 rfl rfl (fun w' hC' => q_extract (vs := [_, _]) (v := .agg _) rfl rfl rfl) (m_q3 rfl rfl (fun w' hC' => q_extract (vs := [_, _]) (v := .bool _) rfl rfl rfl) (m_o3 rfl rfl (o_store_all (cs' := (aftL pl wt S0 ((S.getD k sv0).xs)).1.map vint) Try.sizeOf58 rfl rfl hb33 (rfl) (by rw [List.length_map, aft_len]; omega) (all_one_map _ _ (fun _ => rfl)) rfl ?_))))
    intro w35 hz35 hb33 hG35
    refine ⟨(below_upd_of hG35 hbW_b33 hszW), ?_⟩
    replace hsz : w.heap.size ≤ w35.heap.size := by rw [hz35]; exact hsz
    replace hJ := hJs _ _ _ hJ (below_upd_of hG35 hbs_b33 (by omega))
    replace hszW := Nat.le_trans hszW hG35.size
    refine m_q3 rfl rfl (fun w' hC' => qab rfl rfl) (m_nil3 (r_forget [(0, .func (.yield l) ⟨[]⟩ ⟨[]⟩), (1, .pointer _), (2, .pointer _), (5, .slice _ _ _), (6, .pointer _), (7, .bool _), (11, .slice _ _ _), (12, .int _ _), (13, .int _ _)] ⟨rfl, rfl, rfl, rfl, rfl, rfl, rfl, rfl, rfl, trivial⟩ (fun e36 => (r_seq (r_seq (r_draw ext_refl' ext_trans' [0, 1, 2, 3, 4, 5, 6, 7, 8, 9, 10, 11, 12, 13, 14, 15] [] 20 (by kernel_rfl) (by kernel_rfl) ?_))))))
    intro w37 _ hE37
    replace hJ := hJs _ _ _ hJ (below_ext_of hE37 hsz)
    replace hb33 := hb33.ext hE37
    replace hsz := Nat.le_trans hsz hE37.size
    refine m_q rfl rfl (fun w' hC' => q_load_agg (n := 8) Try.isAgg58 Try.sizeOf58 rfl (((hb33.cells0).ext hC')) (by rw [List.length_map, aft_len]; omega) rfl) (m_q rfl rfl (fun w' hC' => q_fieldAddr (o' := 1) rfl fld61_1 rfl) (m_q rfl rfl (fun w' hC' => q_load_agg (n := 8) Try.isAgg58 Try.sizeOf58 rfl ((((hJb _ _ hJ).2.1.tail).ext hC')) (by rw [List.length_map]; exact hS8) rfl) (m_q rfl rfl (fun w' hC' => q_eql_stood spotTy (by kernel_rfl) rfl rfl (by rw [aft_len]; omega) (by exact hS8) rfl) (m_q rfl rfl (fun w' hC' => qmb rfl rfl) (m_part 34 rfl (fun hc38 => ?_) (fun hc38 => ?_))))))
    ·
     replace hc38 := dt hc38
     have g34 := hc38
     refine m_q rfl rfl (fun w' hC' => q_load Try.isAgg51 rfl ((((hJb _ _ hJ).1.has (o := 0) rfl).ext hC')) rfl) (m_q rfl rfl (fun w' hC' => q_nilCheck rfl rfl) (m_q rfl rfl (fun w' hC' => q_fieldAddr (o' := 0) rfl fld90_0 rfl) (m_q rfl rfl (fun w' hC' => q_fieldAddr (o' := 0) rfl fld29_0 rfl) (m_q rfl rfl (fun w' hC' => q_load Try.isAgg26 rfl ((((hJb _ _ hJ).2.2.blk.has (o := 0) rfl).ext hC')) rfl) (m_q rfl rfl (fun w' hC' => q_fieldAddr (o' := 0) rfl fld61_0 rfl) (m_q rfl rfl (fun w' hC' => q_load Try.isAgg3 rfl ((((hJb _ _ hJ).2.1.has (o := 0) rfl).ext hC')) rfl) ?_))))))
     obtain ⟨b39, o39, ha39, hh39⟩ := (hJb _ _ hJ).2.2.po.rnd.at1 wt ((nd).getD wt 0) (getD_some (by omega))
     refine m_q rfl rfl (fun w' hC' => q_indexAddr1 Try.underlying26 Try.sizeOf3 rfl ha39 rfl (by omega) rfl) (m_q rfl rfl (fun w' hC' => q_load Try.isAgg3 rfl ((hh39.ext hC')) rfl) (m_q rfl rfl (fun w' hC' => q_gtr rfl rfl rfl) (m_q rfl rfl (fun w' hC' => q_pick_t (v := .bool _) rfl rfl rfl) (m_nil (r_forget [(0, .func (.yield l) ⟨[]⟩ ⟨[]⟩), (1, .pointer _), (2, .pointer _), (5, .slice _ _ _), (6, .pointer _), (7, .bool _), (11, .slice _ _ _), (12, .int _ _), (13, .int _ _), (45, .bool _)] ⟨rfl, rfl, rfl, rfl, rfl, rfl, rfl, rfl, rfl, rfl, trivial⟩ (fun e40 => (r_cond rfl (fun hc41 => ?_) (fun hc41 => ?_))))))))
     ·
      replace hc41 := dt hc41
      have hJn := hskip k _ hkS hJ (nx_same g34 hc41)
      refine r_exit rfl (r_region' (l_q (q_add rfl rfl (by omega) rfl) (l_q (qmi rfl rfl) (l_nil ?_))))
      exact ih1 (k + 1) _ _ ⟨⟨rfl, rfl, rfl, rfl, rfl, by first | rfl | exact vint_eq (by omega), trivial⟩, (by omega), hJn, hsz⟩ (by first | omega | (dsimp only; omega))
     ·
      replace hc41 := dlt hc41
      have g45 := hc41
      refine r_skip (r_seq (r_draw ext_refl' ext_trans' [0, 1, 2, 3, 4, 5, 6, 7, 8, 9, 10, 11, 12, 13, 14, 15, 16, 17, 18, 19, 20, 21] [9, 19, 1019] 24 (by kernel_rfl) (by kernel_rfl) ?_))
      intro w42 _ hE42
      replace hJ := hJs _ _ _ hJ (below_ext_of hE42 hsz)
      replace hb33 := hb33.ext hE42
      replace hsz := Nat.le_trans hsz hE42.size
      refine m_q rfl rfl (fun w' hC' => qmb rfl rfl) (m_q rfl rfl (fun w' hC' => qmb rfl rfl) (m_part 47 rfl (fun hc43 => ?_) (fun hc43 => ?_)))
      ·
       have g47 := hc43
       refine m_q rfl rfl (fun w' hC' => q_load Try.isAgg51 rfl ((((hJb _ _ hJ).1.has (o := 0) rfl).ext hC')) rfl) (m_q rfl rfl (fun w' hC' => q_nilCheck rfl rfl) (m_q rfl rfl (fun w' hC' => q_fieldAddr (o' := 0) rfl fld90_0 rfl) (m_q rfl rfl (fun w' hC' => q_load_agg (n := 3) Try.isAgg29 Try.sizeOf29 rfl ((((hJb _ _ hJ).2.2.blk.cells' (cs' := [_, _, _]) 0 3 rfl).ext hC')) rfl rfl) (m_q rfl rfl (fun w' hC' => qms rfl rfl) (m_q rfl rfl (fun w' hC' => q_fieldAddr (o' := 0) rfl fld61_0 rfl) (m_q rfl rfl (fun w' hC' => q_load Try.isAgg3 rfl ((((hJb _ _ hJ).2.1.has (o := 0) rfl).ext hC')) rfl) (m_o rfl rfl (o_call Try.call31 rfl (holds_ret na nc nd pa pc pl ca cc L _ _ (S.getD k sv0).xs wt _ (hJb _ _ hJ).2.2.po hok (RowsI.get ((hJb _ _ hJ).2.2.rSr) (i := k) (by omega)) (by omega) hSk.2 hwt) rfl ?_))))))))
       rintro _ w44 ⟨rfl, hE44⟩
       refine ⟨hE44, ?_⟩
       replace hJ := hJs _ _ _ hJ (below_ext_of hE44 hsz)
       replace hb33 := hb33.ext hE44
       replace hsz := Nat.le_trans hsz hE44.size
       refine m_q rfl rfl (fun w' hC' => q_pick_t (v := .bool _) rfl rfl rfl) (m_q rfl rfl (fun w' hC' => qmb rfl rfl) (m_part 57 rfl (fun hc45 => ?_) (fun hc45 => ?_)))
       ·
        have g57 := hc45
        have hnx : nxOK nd pl (L.map (·.xs)) wt S0 (S.getD k sv0).xs = true := by first | exact nx_ok1 g34 g47 g57 | exact nx_ok2 g45 g47 g57
        refine m_q rfl rfl (fun w' hC' => q_move (v := .func (.yield l) ⟨[]⟩ ⟨[]⟩) rfl rfl) (m_q rfl rfl (fun w' hC' => qms rfl rfl) (m_q rfl rfl (fun w' hC' => q_fieldAddr (o' := 0) rfl fld61_0 rfl) (m_q rfl rfl (fun w' hC' => q_load Try.isAgg3 rfl ((((hJb _ _ hJ).2.1.has (o := 0) rfl).ext hC')) rfl) (m_q rfl rfl (fun w' hC' => q_add rfl rfl (by omega) rfl) (m_q rfl rfl (fun w' hC' => q_load_agg (n := 8) Try.isAgg58 Try.sizeOf58 rfl (((hb33.cells0).ext hC')) (by rw [List.length_map, aft_len]; omega) rfl) (m_q rfl rfl (fun w' hC' => q_build (v := .agg ⟨(((wt : Int) + 1 : Int) :: ((aftL pl wt S0 ((S.getD k sv0).xs)).1)).map vint⟩) (spot_build (by rw [aft_len]; omega)) rfl) (m_last rfl rfl rfl (o_yield rfl rfl (hy k _ (by omega) hJ (by omega) hnx) rfl ?_))))))))
        rintro _ w46 ⟨y65, rfl, hJy, hEy, hzy⟩
        replace hsz := Nat.le_trans hsz hzy
        refine m_q rfl rfl (fun w' hC' => q_not rfl rfl) (m_q rfl rfl (fun w' hC' => q_pick_t (v := .bool _) rfl rfl rfl) (m_nil (r_forget [(0, .func (.yield l) ⟨[]⟩ ⟨[]⟩), (1, .pointer _), (2, .pointer _), (11, .slice _ _ _), (12, .int _ _), (13, .int _ _), (67, .bool _)] ⟨rfl, rfl, rfl, rfl, rfl, rfl, rfl, trivial⟩ (fun e47 => (r_cond rfl (fun hc48 => ?_) (fun hc48 => ?_))))))
        ·
         replace hc48 := nt hc48
         have hE2 := hEy hc48
         refine r_ret_ (vs := []) rfl Try.func44 rfl (.nil _) trivial ?_
         exact .inr hE2
        ·
         replace hc48 := nf hc48
         have hJn := hJy hc48
         refine r_skip (r_inBlock (r_region' (l_q (q_add rfl rfl (by omega) rfl) (l_q (qmi rfl rfl) (l_nil ?_)))))
         exact ih1 (k + 1) _ _ ⟨⟨rfl, rfl, rfl, rfl, rfl, by first | rfl | exact vint_eq (by omega), trivial⟩, (by omega), hJn, hsz⟩ (by first | omega | (dsimp only; omega))
       ·
        have hJn := hskip k _ hkS hJ (nx_hold hc45)
        refine m_q rfl rfl (fun w' hC' => q_skip rfl) (m_q rfl rfl (fun w' hC' => q_skip rfl) (m_q rfl rfl (fun w' hC' => q_skip rfl) (m_q rfl rfl (fun w' hC' => q_skip rfl) (m_q rfl rfl (fun w' hC' => q_skip rfl) (m_q rfl rfl (fun w' hC' => q_skip rfl) (m_q rfl rfl (fun w' hC' => q_skip rfl) (m_o rfl rfl ((q_skip rfl).eff ⟨Ext.refl _, ?_⟩))))))))
        refine m_q rfl rfl (fun w' hC' => q_skip rfl) (m_q rfl rfl (fun w' hC' => q_pick_f (v := .bool _) rfl rfl rfl) (m_nil (r_forget [(0, .func (.yield l) ⟨[]⟩ ⟨[]⟩), (1, .pointer _), (2, .pointer _), (11, .slice _ _ _), (12, .int _ _), (13, .int _ _), (67, .bool _)] ⟨rfl, rfl, rfl, rfl, rfl, rfl, rfl, trivial⟩ (fun e49 => (r_cond_f rfl (r_skip (r_inBlock (r_region' (l_q (q_add rfl rfl (by omega) rfl) (l_q (qmi rfl rfl) (l_nil ?_)))))))))))
        exact ih1 (k + 1) _ _ ⟨⟨rfl, rfl, rfl, rfl, rfl, by first | rfl | exact vint_eq (by omega), trivial⟩, (by omega), hJn, hsz⟩ (by first | omega | (dsimp only; omega))
      ·
       have hJn := hskip k _ hkS hJ (nx_rule hc43)
       refine m_q rfl rfl (fun w' hC' => q_skip rfl) (m_q rfl rfl (fun w' hC' => q_skip rfl) (m_q rfl rfl (fun w' hC' => q_skip rfl) (m_q rfl rfl (fun w' hC' => q_skip rfl) (m_q rfl rfl (fun w' hC' => q_skip rfl) (m_q rfl rfl (fun w' hC' => q_skip rfl) (m_q rfl rfl (fun w' hC' => q_skip rfl) (m_o rfl rfl ((q_skip rfl).eff ⟨Ext.refl _, ?_⟩))))))))
       refine m_q rfl rfl (fun w' hC' => q_pick_f (v := .bool _) rfl rfl rfl) (m_q rfl rfl (fun w' hC' => qmb rfl rfl) (m_q rfl rfl (fun w' hC' => q_skip rfl) (m_q rfl rfl (fun w' hC' => q_skip rfl) (m_q rfl rfl (fun w' hC' => q_skip rfl) (m_q rfl rfl (fun w' hC' => q_skip rfl) (m_q rfl rfl (fun w' hC' => q_skip rfl) (m_q rfl rfl (fun w' hC' => q_skip rfl) (m_q rfl rfl (fun w' hC' => q_skip rfl) (m_o rfl rfl ((q_skip rfl).eff ⟨Ext.refl _, ?_⟩))))))))))
       refine m_q rfl rfl (fun w' hC' => q_skip rfl) (m_q rfl rfl (fun w' hC' => q_pick_f (v := .bool _) rfl rfl rfl) (m_nil (r_forget [(0, .func (.yield l) ⟨[]⟩ ⟨[]⟩), (1, .pointer _), (2, .pointer _), (11, .slice _ _ _), (12, .int _ _), (13, .int _ _), (67, .bool _)] ⟨rfl, rfl, rfl, rfl, rfl, rfl, rfl, trivial⟩ (fun e50 => (r_cond_f rfl (r_skip (r_inBlock (r_region' (l_q (q_add rfl rfl (by omega) rfl) (l_q (qmi rfl rfl) (l_nil ?_)))))))))))
       exact ih1 (k + 1) _ _ ⟨⟨rfl, rfl, rfl, rfl, rfl, by first | rfl | exact vint_eq (by omega), trivial⟩, (by omega), hJn, hsz⟩ (by first | omega | (dsimp only; omega))
    ·
     replace hc38 := df hc38
     have g34 := hc38
     refine m_q rfl rfl (fun w' hC' => q_skip rfl) (m_q rfl rfl (fun w' hC' => q_skip rfl) (m_q rfl rfl (fun w' hC' => q_skip rfl) (m_q rfl rfl (fun w' hC' => q_skip rfl) (m_q rfl rfl (fun w' hC' => q_skip rfl) (m_q rfl rfl (fun w' hC' => q_skip rfl) (m_q rfl rfl (fun w' hC' => q_skip rfl) (m_q rfl rfl (fun w' hC' => q_skip rfl) (m_q rfl rfl (fun w' hC' => q_skip rfl) (m_q rfl rfl (fun w' hC' => q_skip rfl) (m_q rfl rfl (fun w' hC' => q_pick_f (v := .bool _) rfl rfl rfl) (m_nil (r_forget [(0, .func (.yield l) ⟨[]⟩ ⟨[]⟩), (1, .pointer _), (2, .pointer _), (5, .slice _ _ _), (6, .pointer _), (7, .bool _), (11, .slice _ _ _), (12, .int _ _), (13, .int _ _), (45, .bool _)] ⟨rfl, rfl, rfl, rfl, rfl, rfl, rfl, rfl, rfl, rfl, trivial⟩ (fun e51 => (r_cond_f rfl (r_skip (r_seq ?_))))))))))))))))
     refine r_draw ext_refl' ext_trans' [0, 1, 2, 3, 4, 5, 6, 7, 8, 9, 10, 11, 12, 13, 14, 15, 16, 17, 18, 19, 20, 21] [9, 19, 1019] 24 (by kernel_rfl) (by kernel_rfl) ?_
     intro w52 _ hE52
     replace hJ := hJs _ _ _ hJ (below_ext_of hE52 hsz)
     replace hb33 := hb33.ext hE52
     replace hsz := Nat.le_trans hsz hE52.size
     refine m_q rfl rfl (fun w' hC' => qmb rfl rfl) (m_q rfl rfl (fun w' hC' => qmb rfl rfl) (m_part 47 rfl (fun hc53 => ?_) (fun hc53 => ?_)))
     ·
      have g47 := hc53
      refine m_q rfl rfl (fun w' hC' => q_load Try.isAgg51 rfl ((((hJb _ _ hJ).1.has (o := 0) rfl).ext hC')) rfl) (m_q rfl rfl (fun w' hC' => q_nilCheck rfl rfl) (m_q rfl rfl (fun w' hC' => q_fieldAddr (o' := 0) rfl fld90_0 rfl) (m_q rfl rfl (fun w' hC' => q_load_agg (n := 3) Try.isAgg29 Try.sizeOf29 rfl ((((hJb _ _ hJ).2.2.blk.cells' (cs' := [_, _, _]) 0 3 rfl).ext hC')) rfl rfl) (m_q rfl rfl (fun w' hC' => qms rfl rfl) (m_q rfl rfl (fun w' hC' => q_fieldAddr (o' := 0) rfl fld61_0 rfl) (m_q rfl rfl (fun w' hC' => q_load Try.isAgg3 rfl ((((hJb _ _ hJ).2.1.has (o := 0) rfl).ext hC')) rfl) (m_o rfl rfl (o_call Try.call31 rfl (holds_ret na nc nd pa pc pl ca cc L _ _ (S.getD k sv0).xs wt _ (hJb _ _ hJ).2.2.po hok (RowsI.get ((hJb _ _ hJ).2.2.rSr) (i := k) (by omega)) (by omega) hSk.2 hwt) rfl ?_))))))))
      rintro _ w54 ⟨rfl, hE54⟩
      refine ⟨hE54, ?_⟩
      replace hJ := hJs _ _ _ hJ (below_ext_of hE54 hsz)
      replace hb33 := hb33.ext hE54
      replace hsz := Nat.le_trans hsz hE54.size
      refine m_q rfl rfl (fun w' hC' => q_pick_t (v := .bool _) rfl rfl rfl) (m_q rfl rfl (fun w' hC' => qmb rfl rfl) (m_part 57 rfl (fun hc55 => ?_) (fun hc55 => ?_)))
      ·
       have g57 := hc55
       have hnx : nxOK nd pl (L.map (·.xs)) wt S0 (S.getD k sv0).xs = true := by first | exact nx_ok1 g34 g47 g57 | exact nx_ok2 g45 g47 g57
       refine m_q rfl rfl (fun w' hC' => q_move (v := .func (.yield l) ⟨[]⟩ ⟨[]⟩) rfl rfl) (m_q rfl rfl (fun w' hC' => qms rfl rfl) (m_q rfl rfl (fun w' hC' => q_fieldAddr (o' := 0) rfl fld61_0 rfl) (m_q rfl rfl (fun w' hC' => q_load Try.isAgg3 rfl ((((hJb _ _ hJ).2.1.has (o := 0) rfl).ext hC')) rfl) (m_q rfl rfl (fun w' hC' => q_add rfl rfl (by omega) rfl) (m_q rfl rfl (fun w' hC' => q_load_agg (n := 8) Try.isAgg58 Try.sizeOf58 rfl (((hb33.cells0).ext hC')) (by rw [List.length_map, aft_len]; omega) rfl) (m_q rfl rfl (fun w' hC' => q_build (v := .agg ⟨(((wt : Int) + 1 : Int) :: ((aftL pl wt S0 ((S.getD k sv0).xs)).1)).map vint⟩) (spot_build (by rw [aft_len]; omega)) rfl) (m_last rfl rfl rfl (o_yield rfl rfl (hy k _ (by omega) hJ (by omega) hnx) rfl ?_))))))))
       rintro _ w56 ⟨y65, rfl, hJy, hEy, hzy⟩
       replace hsz := Nat.le_trans hsz hzy
       refine m_q rfl rfl (fun w' hC' => q_not rfl rfl) (m_q rfl rfl (fun w' hC' => q_pick_t (v := .bool _) rfl rfl rfl) (m_nil (r_forget [(0, .func (.yield l) ⟨[]⟩ ⟨[]⟩), (1, .pointer _), (2, .pointer _), (11, .slice _ _ _), (12, .int _ _), (13, .int _ _), (67, .bool _)] ⟨rfl, rfl, rfl, rfl, rfl, rfl, rfl, trivial⟩ (fun e57 => (r_cond rfl (fun hc58 => ?_) (fun hc58 => ?_))))))
       ·
        replace hc58 := nt hc58
        have hE2 := hEy hc58
        refine r_ret_ (vs := []) rfl Try.func44 rfl (.nil _) trivial ?_
        exact .inr hE2
       ·
        replace hc58 := nf hc58
        have hJn := hJy hc58
        refine r_skip (r_inBlock (r_region' (l_q (q_add rfl rfl (by omega) rfl) (l_q (qmi rfl rfl) (l_nil ?_)))))
        exact ih1 (k + 1) _ _ ⟨⟨rfl, rfl, rfl, rfl, rfl, by first | rfl | exact vint_eq (by omega), trivial⟩, (by omega), hJn, hsz⟩ (by first | omega | (dsimp only; omega))
      ·
       have hJn := hskip k _ hkS hJ (nx_hold hc55)
       refine m_q rfl rfl (fun w' hC' => q_skip rfl) (m_q rfl rfl (fun w' hC' => q_skip rfl) (m_q rfl rfl (fun w' hC' => q_skip rfl) (m_q rfl rfl (fun w' hC' => q_skip rfl) (m_q rfl rfl (fun w' hC' => q_skip rfl) (m_q rfl rfl (fun w' hC' => q_skip rfl) (m_q rfl rfl (fun w' hC' => q_skip rfl) (m_o rfl rfl ((q_skip rfl).eff ⟨Ext.refl _, ?_⟩))))))))
       refine m_q rfl rfl (fun w' hC' => q_skip rfl) (m_q rfl rfl (fun w' hC' => q_pick_f (v := .bool _) rfl rfl rfl) (m_nil (r_forget [(0, .func (.yield l) ⟨[]⟩ ⟨[]⟩), (1, .pointer _), (2, .pointer _), (11, .slice _ _ _), (12, .int _ _), (13, .int _ _), (67, .bool _)] ⟨rfl, rfl, rfl, rfl, rfl, rfl, rfl, trivial⟩ (fun e59 => (r_cond_f rfl (r_skip (r_inBlock (r_region' (l_q (q_add rfl rfl (by omega) rfl) (l_q (qmi rfl rfl) (l_nil ?_)))))))))))
       exact ih1 (k + 1) _ _ ⟨⟨rfl, rfl, rfl, rfl, rfl, by first | rfl | exact vint_eq (by omega), trivial⟩, (by omega), hJn, hsz⟩ (by first | omega | (dsimp only; omega))
     ·
      have hJn := hskip k _ hkS hJ (nx_rule hc53)
      refine m_q rfl rfl (fun w' hC' => q_skip rfl) (m_q rfl rfl (fun w' hC' => q_skip rfl) (m_q rfl rfl (fun w' hC' => q_skip rfl) (m_q rfl rfl (fun w' hC' => q_skip rfl) (m_q rfl rfl (fun w' hC' => q_skip rfl) (m_q rfl rfl (fun w' hC' => q_skip rfl) (m_q rfl rfl (fun w' hC' => q_skip rfl) (m_o rfl rfl ((q_skip rfl).eff ⟨Ext.refl _, ?_⟩))))))))
      refine m_q rfl rfl (fun w' hC' => q_pick_f (v := .bool _) rfl rfl rfl) (m_q rfl rfl (fun w' hC' => qmb rfl rfl) (m_q rfl rfl (fun w' hC' => q_skip rfl) (m_q rfl rfl (fun w' hC' => q_skip rfl) (m_q rfl rfl (fun w' hC' => q_skip rfl) (m_q rfl rfl (fun w' hC' => q_skip rfl) (m_q rfl rfl (fun w' hC' => q_skip rfl) (m_q rfl rfl (fun w' hC' => q_skip rfl) (m_q rfl rfl (fun w' hC' => q_skip rfl) (m_o rfl rfl ((q_skip rfl).eff ⟨Ext.refl _, ?_⟩))))))))))
      refine m_q rfl rfl (fun w' hC' => q_skip rfl) (m_q rfl rfl (fun w' hC' => q_pick_f (v := .bool _) rfl rfl rfl) (m_nil (r_forget [(0, .func (.yield l) ⟨[]⟩ ⟨[]⟩), (1, .pointer _), (2, .pointer _), (11, .slice _ _ _), (12, .int _ _), (13, .int _ _), (67, .bool _)] ⟨rfl, rfl, rfl, rfl, rfl, rfl, rfl, trivial⟩ (fun e60 => (r_cond_f rfl (r_skip (r_inBlock (r_region' (l_q (q_add rfl rfl (by omega) rfl) (l_q (qmi rfl rfl) (l_nil ?_)))))))))))
      exact ih1 (k + 1) _ _ ⟨⟨rfl, rfl, rfl, rfl, rfl, by first | rfl | exact vint_eq (by omega), trivial⟩, (by omega), hJn, hsz⟩ (by first | omega | (dsimp only; omega))
  ·
   replace hc2 := dlt hc2
   refine r_exit rfl (r_end_ (vs := []) rfl Try.func44 rfl (.nil _) trivial ?_)
   have hkk : k = S.length := by omega
   subst hkk
   exact .inl hJ
end Go.Proofs.Ytbikicakdkbcgaa
