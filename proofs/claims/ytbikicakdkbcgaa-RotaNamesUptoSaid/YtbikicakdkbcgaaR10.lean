/- Contracts. -/
import Derived.Test.YtbikicakdkbcgaaR9
set_option linter.unusedVariables false
set_option linter.unusedSimpArgs false
namespace Go.Proofs.Ytbikicakdkbcgaa
open Go Go.RowKit Go.Gv Go.Fl

theorem lists_two {S : List SV} {n : Nat} (h : S.map (·.xs) = listsL (upTo n)) (h1 : 1 ≤ n) : 2 ≤ S.length := by
  have h2 := congrArg List.length h
  rw [List.length_map, lists_len, upTo_len] at h2
  rw [h2]
  obtain ⟨k, rfl⟩ : ∃ k, n = k + 1 := ⟨n - 1, by omega⟩
  have := Nat.one_le_two_pow (n := k)
  omega
def bestR (nd : List Int) (pl : List PV) (L : List SV) : List (List Int) × Int × Int :=
  if faultP (po nd pl L) = 0 then
    (if 1024 ≤ rfe nd pl (L.map (·.xs)) (listsL (upTo pl.length)) 0 stood0 then ([], 0, 10) else (rext nd pl (L.map (·.xs)) (listsL (upTo pl.length)) 0 stood0, rfe nd pl (L.map (·.xs)) (listsL (upTo pl.length)) 0 stood0, 0))
  else ([], 0, faultP (po nd pl L))
section
variable {nd : List Int} {pl : List PV} {L : List SV}
theorem best_1 (h : ¬ faultP (po nd pl L) = 0) : bestR nd pl L = ([], 0, faultP (po nd pl L)) := if_neg h
theorem best_2 (hok : faultP (po nd pl L) = 0) (h : 1024 ≤ rfe nd pl (L.map (·.xs)) (listsL (upTo pl.length)) 0 stood0) : bestR nd pl L = ([], 0, 10) := by unfold bestR; rw [if_pos hok, if_pos h]
theorem best_3 (hok : faultP (po nd pl L) = 0) (h : rfe nd pl (L.map (·.xs)) (listsL (upTo pl.length)) 0 stood0 < 1024) : bestR nd pl L = (rext nd pl (L.map (·.xs)) (listsL (upTo pl.length)) 0 stood0, rfe nd pl (L.map (·.xs)) (listsL (upTo pl.length)) 0 stood0, 0) := by unfold bestR; rw [if_pos hok, if_neg (by omega)]
end


theorem rext_ret {na : Option Addr} {nc : Nat} {nd : List Int} {pa : Option Addr} {pc : Nat} {pl : List PV} {ca : Option Addr} {cc : Nat} {L : List SV} {wb : Nat} {oa : Option Addr} {oc : Nat} {S : List SV} {m pb wq rb fb : Nat} {W : World} (hok : faultP (po nd pl L) = 0) (hSn : S.length ≤ 2097152) (hSon : ∀ s ∈ S, s.xs.length ≤ 8 ∧ ∀ i ∈ s.xs, 0 ≤ i ∧ i ≤ (pl.length : Int) - 1) (hX : BX W na nc nd pa pc pl ca cc L wb oa oc S m pb wq rb fb) :
    ∀ (n wt : Nat) (S0 : List Int) (w : World) (es : List MapEntry) (ck : Nat) (ra : Option Addr) (rc : Nat) (R : List SV), nd.length - wt ≤ n → wt ≤ nd.length → S0.length = 8 → (∀ v ∈ S0, -1 ≤ v ∧ v ≤ 1000) → FrS (SX m rb) W w → Blk w rb [.slice ra R.length rc] → w.ownsRow W.heap.size 26 1 (.slice ra R.length rc) R.length (R.map SV.enc) → OwnsI w W.heap.size 3 R → R.length ≤ wt → MapAt w m es ck → SMemo nd pl (L.map (·.xs)) (S.map (·.xs)) es →
      Ret Try.prog 19 [.agg ⟨((wt : Int) :: S0).map vint⟩, vint (rfe nd pl (L.map (·.xs)) (S.map (·.xs)) wt S0), ptr pb 0, ptr wq 0, ptr rb 0, ptr fb 0] w (fun v w' => v = .tuple ⟨[]⟩ ∧ ExW W nd pl (L.map (·.xs)) (S.map (·.xs)) m rb (R.map (·.xs) ++ rext nd pl (L.map (·.xs)) (S.map (·.xs)) wt S0) w' ∧ FrS (SW m rb ra) w w') := by
  intro n
  induction n with
  | zero =>
    intro wt S0 w es ck ra rc R hn hwt hS8 hSb hF hc ho hos hRl hM hMm
    exact rext_step _ _ _ _ _ _ _ _ _ _ _ _ _ _ _ _ _ _ W ck es wt S0 ra rc R w hok hSn hSon hX hwt hS8 hSb hF hc ho hos hRl hM hMm (fun wt2 S2 w1 es1 ck1 ra1 rc1 R1 hlt => by omega)
  | succ n ih =>
    intro wt S0 w es ck ra rc R hn hwt hS8 hSb hF hc ho hos hRl hM hMm
    exact rext_step _ _ _ _ _ _ _ _ _ _ _ _ _ _ _ _ _ _ W ck es wt S0 ra rc R w hok hSn hSon hX hwt hS8 hSb hF hc ho hos hRl hM hMm (fun wt2 S2 w1 es1 ck1 ra1 rc1 R1 hlt => ih wt2 S2 w1 es1 ck1 ra1 rc1 R1 (by omega))
theorem best_ret (na : Option Addr) (nc : Nat) (nd : List Int) (pa : Option Addr) (pc : Nat) (pl : List PV) (ca : Option Addr) (cc : Nat) (L : List SV) (w : World) (hpo : PoAt w na nc nd pa pc pl ca cc L) (hnl : nd.length ≤ 2097152) (hpll : pl.length ≤ 2097152) (hLl : L.length ≤ 2097152) (hLs : ∀ s ∈ L, s.xs.length ≤ 2097152) : Ret Try.prog 4 [.agg ⟨[.slice na nd.length nc, .slice pa pl.length pc, .slice ca L.length cc]⟩] w (fun v w' => ∃ oa oc R2, v = .tuple ⟨[.slice oa R2.length oc, vint (bestR nd pl L).2.1, vint (bestR nd pl L).2.2]⟩ ∧ w'.ownsRow w.heap.size 26 1 (.slice oa R2.length oc) R2.length (R2.map SV.enc) ∧ OwnsI w' w.heap.size 3 R2 ∧ R2.map (·.xs) = (bestR nd pl L).1 ∧ Ext w w') := by
 have hB := Below.refl w.heap.size w
 have hsz : w.heap.size ≤ w.heap.size := Nat.le_refl _
 refine ret_of_runs (args := [_]) Try.func4 rfl (Nat.le_of_ble_eq_true rfl) (by kernel_rfl) (r_seq (r_region' (l_o (o_box rfl rfl rfl ?_))))
 intro b1 w1 hzl1 hzr1 _ hb1 hE1
 have hbs_b1 : w.heap.size ≤ b1 := Nat.le_trans hsz hzl1
 replace hB := below_ext hB hE1 hsz
 replace hsz := Nat.le_trans hsz hE1.size
 refine l_o (o_alloc Try.zeroValue22 rfl rfl ?_)
 intro b2 w2 hzl2 hzr2 _ hb2 hE2
 have hne_b1_b2 : b1 ≠ b2 := by have := hb1.lt; omega
 have hbs_b2 : w.heap.size ≤ b2 := Nat.le_trans hsz hzl2
 replace hB := below_ext hB hE2 hsz
 replace hb1 := hb1.ext hE2
 replace hsz := Nat.le_trans hsz hE2.size
 refine l_q (qai rfl rfl) (l_q (qai rfl rfl) (l_nil (r_seq (r_seq (r_region' (l_q (q_load_agg (n := 3) Try.isAgg29 Try.sizeOf29 rfl ((hb1.cells' (cs' := [_, _, _]) 0 3 rfl)) rfl rfl) (l_o (o_call Try.call13 rfl (checkPost_ret na nc nd pa pc pl ca cc L _ (hpo.below hB) hnl hpll hLl hLs) rfl ?_))))))))
 rintro _ w3 ⟨rfl, hE3⟩
 replace hB := below_ext hB hE3 hsz
 replace hb1 := hb1.ext hE3
 replace hb2 := hb2.ext hE3
 replace hsz := Nat.le_trans hsz hE3.size
 refine l_q (qai rfl rfl) (l_nil (r_seq (r_region' (l_q (qmi rfl rfl) (l_q (q_neq rfl rfl rfl) (l_nil (r_cond rfl (fun hc4 => ?_) (fun hc4 => ?_))))))))
 ·
  replace hc4 := df (nt hc4)
  have hp := hc4
  refine r_seq (r_region' (l_q (qmi rfl rfl) (l_o (o_store (vs := [.slice none 0 0]) (cs' := [.slice none 0 0]) Try.sizeOf22 rfl rfl rfl rfl hb2 (Nat.le_of_ble_eq_true rfl) rfl rfl ?_))))
  intro w5 hz5 hb2 hG5
  replace hB := below_upd hB hG5 hsz (by omega)
  replace hsz : w.heap.size ≤ w5.heap.size := by rw [hz5]; exact hsz
  replace hb1 := hb1.upd hG5 (by omega)
  refine l_q (qai rfl rfl) (l_q (qai rfl rfl) (l_nil (r_ret_ (vs := [.slice _ _ _, .int _ _, .int _ _]) rfl Try.func4 rfl (.nil _) ⟨⟨_, _, rfl, run_loadVar1 Try.isAgg22 (hb2.has (o := 0) rfl)⟩, rfl, rfl, trivial⟩ ?_)))
  exact ⟨none, 0, [], by rw [best_1 hp]; rfl, World.ownsRow_nil _ _ _ _, OwnsI.nil _ _ _, by rw [best_1 hp]; rfl, Ext.of_below hB⟩
 ·
  replace hc4 := dt (nf hc4)
  have hok : faultP (po nd pl L) = 0 := by simpa using hc4
  obtain ⟨⟨hn1, hn5⟩, ⟨hp1, hp4⟩, hL4, hnn, hpp, hLL⟩ := po_ok hok
  have hul := upTo_len pl.length
  refine r_skip (r_seq (r_draw3 ext_refl' ext_trans' (.op 0 (.op 1 (.fork 2 (.fork 3 (.op 4 (.op 5 (.done))) (.op 4 (.op 3 (.op 5 (.done))))) (.op 4 (.op 2 (.op 3 (.op 5 (.done)))))))) [2, 3, 4, 5, 1005] 9 (by kernel_rfl) (by kernel_rfl) ?_))
  intro w6 _ hE6
  replace hB := below_ext hB hE6 hsz
  replace hb1 := hb1.ext hE6
  replace hb2 := hb2.ext hE6
  replace hsz := Nat.le_trans hsz hE6.size
  refine m_q3 rfl rfl (fun w' hC' => q_load_agg (n := 3) Try.isAgg29 Try.sizeOf29 rfl (((hb1.cells' (cs' := [_, _, _]) 0 3 rfl).ext hC')) rfl rfl) (m_q3 rfl rfl (fun w' hC' => q_load_agg (n := 3) Try.isAgg29 Try.sizeOf29 rfl (((hb1.cells' (cs' := [_, _, _]) 0 3 rfl).ext hC')) rfl rfl) (m_fork3 ?_ ?_))
  ·
   refine m_o3 rfl rfl (o_call Try.call16 rfl (everybody_ret na nc nd pa pc pl ca cc L _ (by omega)) rfl ?_)
   rintro _ w7 ⟨a7_0, c7_0, rfl, ho7_0, hE7⟩
   replace ho7_0 := own_mono ho7_0 (show w.heap.size ≤ _ by omega)
   refine ⟨hE7, ?_⟩
   replace hB := below_ext hB hE7 hsz
   replace hb1 := hb1.ext hE7
   replace hb2 := hb2.ext hE7
   replace hsz := Nat.le_trans hsz hE7.size
   refine m_fork3 ?_ ?_
   ·
    have hlw_b1 := hb1.lt
    have hlw_b2 := hb2.lt
    refine m_o3 rfl rfl (o_call Try.call15 rfl (work_ret na nc nd pa pc pl ca cc L _ _ (upTo pl.length) _ (Row.of_owns ho7_0) (by omega) (by omega)) rfl ?_)
    rintro _ w8 ⟨wb8, m8, woa8, woc8, WS8, rfl, hbw8, hbm8, hM8, hwb8, hWS8, hWSr8, hWSx8, hfo8, hfs8, hE8⟩
    have hbs_wb8 : w.heap.size ≤ wb8 := Nat.le_trans hsz hbw8
    have hbs_m8 : w.heap.size ≤ m8 := Nat.le_trans hsz hbm8
    refine ⟨hE8, ?_⟩
    replace hB := below_ext hB hE8 hsz
    replace hb1 := hb1.ext hE8
    replace hb2 := hb2.ext hE8
    replace hsz := Nat.le_trans hsz hE8.size
    have hmW8 := hM8.lt
    have hwW8 := hwb8.lt
    have hMw := hM8
    have hWT8 := hWS8
    have hWTr8 := hWSr8
    have hszW := Nat.le_refl w8.heap.size
    refine m_o3 rfl rfl (o_alloc Try.zeroValue51 rfl rfl ?_)
    intro b9 w9 hzl9 hzr9 _ hb9 hE9
    refine ⟨hE9, ?_⟩
    have hne_b1_b9 : b1 ≠ b9 := by have := hb1.lt; omega
    have hne_b2_b9 : b2 ≠ b9 := by have := hb2.lt; omega
    have hne_wb8_b9 : wb8 ≠ b9 := by have := hwb8.lt; omega
    have hbs_b9 : w.heap.size ≤ b9 := Nat.le_trans hsz hzl9
    have hWp_b9 := hszW
    have hbW_b9 := Nat.le_trans hszW hzl9
    replace hB := below_ext hB hE9 hsz
    replace hb1 := hb1.ext hE9
    replace hb2 := hb2.ext hE9
    replace hMw := hMw.keep (hE9.block m8 hMw.lt (by simp))
    replace hszW := Nat.le_trans hszW hE9.size
    replace hWS8 := hWS8.ext hE9
    replace hWSr8 := hWSr8.ext hE9
    replace hwb8 := hwb8.ext hE9
    replace hsz := Nat.le_trans hsz hE9.size
    refine m_last3 rfl rfl rfl (o_store (vs := [ptr wb8 0]) (cs' := [ptr wb8 0]) Try.sizeOf51 rfl rfl rfl rfl hb9 (Nat.le_of_ble_eq_true rfl) rfl rfl ?_)
    intro w10 hz10 hb9 hG10
    replace hB := below_upd hB hG10 hsz (by omega)
    replace hsz : w.heap.size ≤ w10.heap.size := by rw [hz10]; exact hsz
    replace hb1 := hb1.upd hG10 (by omega)
    replace hb2 := hb2.upd hG10 (by omega)
    replace hMw := hMw.keep (hG10.block m8 hMw.lt (by simp; omega))
    replace hszW := Nat.le_trans hszW hG10.size
    replace hWS8 := Row.upd_out hWS8 hWT8 hfo8 hG10 (by omega)
    replace hWSr8 := RowsI.upd_out hWSr8 hWTr8 hfs8 hG10 (by omega)
    replace hwb8 := hwb8.upd hG10 (by omega)
    refine m_nil3 (r_forget [(1, .pointer _), (2, .pointer _), (6, .pointer _)] ⟨rfl, rfl, rfl, trivial⟩ (fun e11 => (r_seq (r_draw ext_refl' ext_trans' [0, 1, 2, 3, 4] [1, 3, 1003] 9 (by kernel_rfl) (by kernel_rfl) ?_))))
    intro w12 _ hE12
    replace hB := below_ext hB hE12 hsz
    replace hb1 := hb1.ext hE12
    replace hb2 := hb2.ext hE12
    replace hMw := hMw.keep (hE12.block m8 hMw.lt (by simp))
    replace hszW := Nat.le_trans hszW hE12.size
    replace hWS8 := hWS8.ext hE12
    replace hWSr8 := hWSr8.ext hE12
    replace hwb8 := hwb8.ext hE12
    replace hb9 := hb9.ext hE12
    replace hsz := Nat.le_trans hsz hE12.size
    refine m_q rfl rfl (fun w' hC' => q_load Try.isAgg51 rfl (((hb9.has (o := 0) rfl).ext hC')) rfl) (m_o rfl rfl (o_call Try.call18 rfl (begun_ret _) rfl ?_))
    rintro _ w13 ⟨rfl, hE13⟩
    refine ⟨hE13, ?_⟩
    replace hB := below_ext hB hE13 hsz
    replace hb1 := hb1.ext hE13
    replace hb2 := hb2.ext hE13
    replace hMw := hMw.keep (hE13.block m8 hMw.lt (by simp))
    replace hszW := Nat.le_trans hszW hE13.size
    replace hWS8 := hWS8.ext hE13
    replace hWSr8 := hWSr8.ext hE13
    replace hwb8 := hwb8.ext hE13
    replace hb9 := hb9.ext hE13
    replace hsz := Nat.le_trans hsz hE13.size
    refine m_q rfl rfl (fun w' hC' => q_build (v := .agg ⟨((0 : Int) :: stood0).map vint⟩) (spot_build (rfl)) rfl) (m_last rfl rfl rfl (o_call Try.call17 rfl (rfew_ret hok (lists_sm hWSx8 (by omega)) (lists_on hWSx8 (by omega) upTo_on) _ 0 stood0 _ _ _ (Nat.le_refl _) (Nat.zero_le _) rfl stood0_b ⟨hpo.below hB, hwb8, hWS8, hWSr8⟩ hMw smemo_nil) rfl ?_))
    rintro _ w14 ⟨rfl, esc14, ckc14, hMc14, hMm14, hGc14⟩
    replace hB := below_upd hB hGc14 hsz hbs_m8
    replace hsz := Nat.le_trans hsz hGc14.size
    replace hb1 := hb1.gm hMw hGc14
    replace hb2 := hb2.gm hMw hGc14
    replace hszW := Nat.le_trans hszW hGc14.size
    replace hWS8 := hWS8.gm hMw hGc14
    replace hWSr8 := hWSr8.gm hMw hGc14
    replace hwb8 := hwb8.gm hMw hGc14
    replace hb9 := hb9.gm hMw hGc14
    have hMx := hMc14
    have hMemo := hMm14
    refine m_q rfl rfl (fun w' hC' => qai rfl rfl) (m_nil (r_seq (r_seq (r_region' (l_q (qmi rfl rfl) (l_q (q_geq rfl rfl rfl) (l_nil (r_cond rfl (fun hc15 => ?_) (fun hc15 => ?_)))))))))
    ·
     replace hc15 := dt hc15
     have g22 := hc15
     refine r_seq (r_region' (l_o (o_store (vs := [.slice none 0 0]) (cs' := [.slice none 0 0]) Try.sizeOf22 rfl rfl rfl rfl hb2 (Nat.le_of_ble_eq_true rfl) rfl rfl ?_)))
     intro w16 hz16 hb2 hG16
     replace hB := below_upd hB hG16 hsz (by omega)
     replace hsz : w.heap.size ≤ w16.heap.size := by rw [hz16]; exact hsz
     replace hb1 := hb1.upd hG16 (by omega)
     replace hszW := Nat.le_trans hszW hG16.size
     replace hWS8 := Row.upd_out hWS8 hWT8 hfo8 hG16 (by omega)
     replace hWSr8 := RowsI.upd_out hWSr8 hWTr8 hfs8 hG16 (by omega)
     replace hwb8 := hwb8.upd hG16 (by omega)
     replace hb9 := hb9.upd hG16 (by omega)
     replace hMx := hMx.keep (hG16.block m8 hMx.lt (by simp; omega))
     refine l_q (qai rfl rfl) (l_q (qai rfl rfl) (l_nil (r_ret_ (vs := [.slice _ _ _, .int _ _, .int _ _]) rfl Try.func4 rfl (.nil _) ⟨⟨_, _, rfl, run_loadVar1 Try.isAgg22 (hb2.has (o := 0) rfl)⟩, rfl, rfl, trivial⟩ ?_)))
     rw [hWSx8] at g22
     exact ⟨none, 0, [], by rw [best_2 hok g22]; rfl, World.ownsRow_nil _ _ _ _, OwnsI.nil _ _ _, by rw [best_2 hok g22]; rfl, Ext.of_below hB⟩
    ·
     replace hc15 := dle hc15
     have g22 := hc15
     refine r_skip (r_seq (r_region' (l_o (o_alloc Try.zeroValue62 rfl rfl ?_))))
     intro b17 w17 hzl17 hzr17 _ hb17 hE17
     have hne_b1_b17 : b1 ≠ b17 := by have := hb1.lt; omega
     have hne_b2_b17 : b2 ≠ b17 := by have := hb2.lt; omega
     have hne_wb8_b17 : wb8 ≠ b17 := by have := hwb8.lt; omega
     have hne_b9_b17 : b9 ≠ b17 := by have := hb9.lt; omega
     have hbs_b17 : w.heap.size ≤ b17 := Nat.le_trans hsz hzl17
     have hWp_b17 := hszW
     have hbW_b17 := Nat.le_trans hszW hzl17
     replace hB := below_ext hB hE17 hsz
     replace hb1 := hb1.ext hE17
     replace hb2 := hb2.ext hE17
     replace hszW := Nat.le_trans hszW hE17.size
     replace hWS8 := hWS8.ext hE17
     replace hWSr8 := hWSr8.ext hE17
     replace hwb8 := hwb8.ext hE17
     replace hb9 := hb9.ext hE17
     replace hMx := hMx.keep (hE17.block m8 hMx.lt (by simp))
     replace hsz := Nat.le_trans hsz hE17.size
     refine l_nil (r_seq (r_region' (l_q (q_makeFunc (v := .func _ ⟨[]⟩ ⟨[_, _, _, _]⟩) rfl rfl) (l_o (o_store (vs := [.func (.func 19) ⟨[]⟩ ⟨[ptr b1 0, ptr b9 0, ptr b2 0, ptr b17 0]⟩]) (cs' := [.func (.func 19) ⟨[]⟩ ⟨[ptr b1 0, ptr b9 0, ptr b2 0, ptr b17 0]⟩]) Try.sizeOf62 rfl rfl rfl rfl hb17 (Nat.le_of_ble_eq_true rfl) rfl rfl ?_)))))
     intro w18 hz18 hb17 hG18
     replace hB := below_upd hB hG18 hsz (by omega)
     replace hsz : w.heap.size ≤ w18.heap.size := by rw [hz18]; exact hsz
     replace hb1 := hb1.upd hG18 (by omega)
     replace hb2 := hb2.upd hG18 (by omega)
     replace hszW := Nat.le_trans hszW hG18.size
     replace hWS8 := Row.upd_out hWS8 hWT8 hfo8 hG18 (by omega)
     replace hWSr8 := RowsI.upd_out hWSr8 hWTr8 hfs8 hG18 (by omega)
     replace hwb8 := hwb8.upd hG18 (by omega)
     replace hb9 := hb9.upd hG18 (by omega)
     replace hMx := hMx.keep (hG18.block m8 hMx.lt (by simp; omega))
     refine l_nil (r_seq (r_draw ext_refl' ext_trans' [0, 3, 1, 2, 4] [1, 4, 1004] 9 (by kernel_rfl) (by kernel_rfl) ?_))
     intro w19 _ hE19
     replace hB := below_ext hB hE19 hsz
     replace hb1 := hb1.ext hE19
     replace hb2 := hb2.ext hE19
     replace hszW := Nat.le_trans hszW hE19.size
     replace hWS8 := hWS8.ext hE19
     replace hWSr8 := hWSr8.ext hE19
     replace hwb8 := hwb8.ext hE19
     replace hb9 := hb9.ext hE19
     replace hMx := hMx.keep (hE19.block m8 hMx.lt (by simp))
     replace hb17 := hb17.ext hE19
     replace hsz := Nat.le_trans hsz hE19.size
     refine m_q rfl rfl (fun w' hC' => q_load Try.isAgg62 rfl (((hb17.has (o := 0) rfl).ext hC')) rfl) (m_q rfl rfl (fun w' hC' => qmi rfl rfl) (m_o rfl rfl (o_call Try.call18 rfl (begun_ret _) rfl ?_)))
     rintro _ w20 ⟨rfl, hE20⟩
     refine ⟨hE20, ?_⟩
     replace hB := below_ext hB hE20 hsz
     replace hb1 := hb1.ext hE20
     replace hb2 := hb2.ext hE20
     replace hszW := Nat.le_trans hszW hE20.size
     replace hWS8 := hWS8.ext hE20
     replace hWSr8 := hWSr8.ext hE20
     replace hwb8 := hwb8.ext hE20
     replace hb9 := hb9.ext hE20
     replace hMx := hMx.keep (hE20.block m8 hMx.lt (by simp))
     replace hb17 := hb17.ext hE20
     replace hsz := Nat.le_trans hsz hE20.size
     refine m_q rfl rfl (fun w' hC' => q_build (v := .agg ⟨((0 : Int) :: stood0).map vint⟩) (spot_build (rfl)) rfl) ?_
     have htwo := lists_two hWSx8 (by omega)
     have hnb : L.map SV.enc ≠ [] → ∀ x, ca = some x → x.block ≠ b2 := fun h0 x hx => by have := hpo.rC.blk_lt h0 x hx; omega
     have hrbW := hb2.lt
     have hWb := hsz
     refine m_last rfl rfl rfl (o_callv (f := 19) (fst := []) (cap := [_, _, _, _]) rfl Try.call19 rfl (rext_ret hok (lists_sm hWSx8 (by rw [upTo_len]; omega)) (lists_on hWSx8 (by rw [upTo_len]; omega) upTo_on) ⟨⟨hpo.below hB, hwb8, hWS8, hWSr8⟩, hMx.unc, hMx.lt, ⟨_, _, _, hb2⟩, hb1, hb9, hb17, htwo, hnb⟩ _ 0 stood0 _ _ _ none 0 [] (Nat.le_refl _) (Nat.zero_le _) rfl stood0_b (FrS.refl _ _) hb2 (World.ownsRow_nil _ _ _ _) (OwnsI.nil _ _ _) (Nat.zero_le _) hMx hMemo) rfl ?_)
     rintro _ w21 ⟨rfl, hEX, hFr⟩
     replace hB := hFr.below hB hsz (by rintro k (h | h | h); omega; omega; cases h)
     replace hsz := Nat.le_trans hsz hFr.size
     obtain ⟨oa, oc, R2, hR⟩ := hEX
     have hrc := hR.cell
     have hro := hR.out
     have hrs := hR.rows
     refine m_nil (r_forget [(2, .pointer _), (3, .int _ _)] ⟨rfl, rfl, trivial⟩ (fun e22 => (r_seq (r_region' (l_q (q_load Try.isAgg22 rfl ((hrc.has (o := 0) rfl)) rfl) (l_q (qmi rfl rfl) (l_o (o_store (vs := [.slice oa ((R2).length) oc]) (cs' := [.slice oa ((R2).length) oc]) Try.sizeOf22 rfl rfl rfl rfl hrc (Nat.le_of_ble_eq_true rfl) rfl rfl ?_))))))))
     intro w23 hz23 hrc hG23
     replace hB := below_upd hB hG23 hsz (by omega)
     replace hsz : w.heap.size ≤ w23.heap.size := by rw [hz23]; exact hsz
     replace hro := own_updlt hro hG23 (by omega)
     replace hrs := (fun s hs => own_updlt (hrs s hs) hG23 (by omega))
     refine l_q (qai rfl rfl) (l_q (qai rfl rfl) (l_nil (r_ret_ (vs := [.slice _ _ _, .int _ _, .int _ _]) rfl Try.func4 rfl (.nil _) ⟨⟨_, _, rfl, run_loadVar1 Try.isAgg22 (hrc.has (o := 0) rfl)⟩, rfl, rfl, trivial⟩ ?_)))
     have hmp := hR.map
     rw [hWSx8] at g22 hmp
     exact ⟨oa, oc, R2, by rw [best_3 hok g22, hWSx8]; rfl, own_mono hro hWb, OwnsI.mono hrs hWb, by rw [best_3 hok g22]; exact hmp, Ext.of_below hB⟩
   ·
    refine m_o3 rfl rfl (o_alloc Try.zeroValue51 rfl rfl ?_)
    intro b24 w24 hzl24 hzr24 _ hb24 hE24
    refine ⟨hE24, ?_⟩
    have hne_b1_b24 : b1 ≠ b24 := by have := hb1.lt; omega
    have hne_b2_b24 : b2 ≠ b24 := by have := hb2.lt; omega
    have hbs_b24 : w.heap.size ≤ b24 := Nat.le_trans hsz hzl24
    replace hB := below_ext hB hE24 hsz
    replace hb1 := hb1.ext hE24
    replace hb2 := hb2.ext hE24
    replace ho7_0 := own_ext ho7_0 hE24
    replace hsz := Nat.le_trans hsz hE24.size
    have hlw_b1 := hb1.lt
    have hlw_b2 := hb2.lt
    have hlw_b24 := hb24.lt
    refine m_o3 rfl rfl (o_call Try.call15 rfl (work_ret na nc nd pa pc pl ca cc L _ _ (upTo pl.length) _ (Row.of_owns ho7_0) (by omega) (by omega)) rfl ?_)
    rintro _ w25 ⟨wb25, m25, woa25, woc25, WS25, rfl, hbw25, hbm25, hM25, hwb25, hWS25, hWSr25, hWSx25, hfo25, hfs25, hE25⟩
    have hbs_wb25 : w.heap.size ≤ wb25 := Nat.le_trans hsz hbw25
    have hbs_m25 : w.heap.size ≤ m25 := Nat.le_trans hsz hbm25
    refine ⟨hE25, ?_⟩
    replace hB := below_ext hB hE25 hsz
    replace hb1 := hb1.ext hE25
    replace hb2 := hb2.ext hE25
    replace hb24 := hb24.ext hE25
    replace hsz := Nat.le_trans hsz hE25.size
    have hmW25 := hM25.lt
    have hwW25 := hwb25.lt
    have hMw := hM25
    have hWT25 := hWS25
    have hWTr25 := hWSr25
    have hszW := Nat.le_refl w25.heap.size
    refine m_last3 rfl rfl rfl (o_store (vs := [ptr wb25 0]) (cs' := [ptr wb25 0]) Try.sizeOf51 rfl rfl rfl rfl hb24 (Nat.le_of_ble_eq_true rfl) rfl rfl ?_)
    intro w26 hz26 hb24 hG26
    replace hB := below_upd hB hG26 hsz (by omega)
    replace hsz : w.heap.size ≤ w26.heap.size := by rw [hz26]; exact hsz
    replace hb1 := hb1.upd hG26 (by omega)
    replace hb2 := hb2.upd hG26 (by omega)
    replace hMw := hMw.keep (hG26.block m25 hMw.lt (by simp; omega))
    replace hszW := Nat.le_trans hszW hG26.size
    replace hWS25 := Row.upd_out hWS25 hWT25 hfo25 hG26 (by omega)
    replace hWSr25 := RowsI.upd_out hWSr25 hWTr25 hfs25 hG26 (by omega)
    replace hwb25 := hwb25.upd hG26 (by omega)
    refine m_nil3 (r_forget [(1, .pointer _), (2, .pointer _), (6, .pointer _)] ⟨rfl, rfl, rfl, trivial⟩ (fun e27 => (r_seq (r_draw ext_refl' ext_trans' [0, 1, 2, 3, 4] [1, 3, 1003] 9 (by kernel_rfl) (by kernel_rfl) ?_))))
    intro w28 _ hE28
    replace hB := below_ext hB hE28 hsz
    replace hb1 := hb1.ext hE28
    replace hb2 := hb2.ext hE28
    replace hb24 := hb24.ext hE28
    replace hMw := hMw.keep (hE28.block m25 hMw.lt (by simp))
    replace hszW := Nat.le_trans hszW hE28.size
    replace hWS25 := hWS25.ext hE28
    replace hWSr25 := hWSr25.ext hE28
    replace hwb25 := hwb25.ext hE28
    replace hsz := Nat.le_trans hsz hE28.size
    refine m_q rfl rfl (fun w' hC' => q_load Try.isAgg51 rfl (((hb24.has (o := 0) rfl).ext hC')) rfl) (m_o rfl rfl (o_call Try.call18 rfl (begun_ret _) rfl ?_))
    rintro _ w29 ⟨rfl, hE29⟩
    refine ⟨hE29, ?_⟩
    replace hB := below_ext hB hE29 hsz
    replace hb1 := hb1.ext hE29
    replace hb2 := hb2.ext hE29
    replace hb24 := hb24.ext hE29
    replace hMw := hMw.keep (hE29.block m25 hMw.lt (by simp))
    replace hszW := Nat.le_trans hszW hE29.size
    replace hWS25 := hWS25.ext hE29
    replace hWSr25 := hWSr25.ext hE29
    replace hwb25 := hwb25.ext hE29
    replace hsz := Nat.le_trans hsz hE29.size
    refine m_q rfl rfl (fun w' hC' => q_build (v := .agg ⟨((0 : Int) :: stood0).map vint⟩) (spot_build (rfl)) rfl) (m_last rfl rfl rfl (o_call Try.call17 rfl (rfew_ret hok (lists_sm hWSx25 (by omega)) (lists_on hWSx25 (by omega) upTo_on) _ 0 stood0 _ _ _ (Nat.le_refl _) (Nat.zero_le _) rfl stood0_b ⟨hpo.below hB, hwb25, hWS25, hWSr25⟩ hMw smemo_nil) rfl ?_))
    rintro _ w30 ⟨rfl, esc30, ckc30, hMc30, hMm30, hGc30⟩
    replace hB := below_upd hB hGc30 hsz hbs_m25
    replace hsz := Nat.le_trans hsz hGc30.size
    replace hb1 := hb1.gm hMw hGc30
    replace hb2 := hb2.gm hMw hGc30
    replace hb24 := hb24.gm hMw hGc30
    replace hszW := Nat.le_trans hszW hGc30.size
    replace hWS25 := hWS25.gm hMw hGc30
    replace hWSr25 := hWSr25.gm hMw hGc30
    replace hwb25 := hwb25.gm hMw hGc30
    have hMx := hMc30
    have hMemo := hMm30
    refine m_q rfl rfl (fun w' hC' => qai rfl rfl) (m_nil (r_seq (r_seq (r_region' (l_q (qmi rfl rfl) (l_q (q_geq rfl rfl rfl) (l_nil (r_cond rfl (fun hc31 => ?_) (fun hc31 => ?_)))))))))
    ·
     replace hc31 := dt hc31
     have g22 := hc31
     refine r_seq (r_region' (l_o (o_store (vs := [.slice none 0 0]) (cs' := [.slice none 0 0]) Try.sizeOf22 rfl rfl rfl rfl hb2 (Nat.le_of_ble_eq_true rfl) rfl rfl ?_)))
     intro w32 hz32 hb2 hG32
     replace hB := below_upd hB hG32 hsz (by omega)
     replace hsz : w.heap.size ≤ w32.heap.size := by rw [hz32]; exact hsz
     replace hb1 := hb1.upd hG32 (by omega)
     replace hb24 := hb24.upd hG32 (by omega)
     replace hszW := Nat.le_trans hszW hG32.size
     replace hWS25 := Row.upd_out hWS25 hWT25 hfo25 hG32 (by omega)
     replace hWSr25 := RowsI.upd_out hWSr25 hWTr25 hfs25 hG32 (by omega)
     replace hwb25 := hwb25.upd hG32 (by omega)
     replace hMx := hMx.keep (hG32.block m25 hMx.lt (by simp; omega))
     refine l_q (qai rfl rfl) (l_q (qai rfl rfl) (l_nil (r_ret_ (vs := [.slice _ _ _, .int _ _, .int _ _]) rfl Try.func4 rfl (.nil _) ⟨⟨_, _, rfl, run_loadVar1 Try.isAgg22 (hb2.has (o := 0) rfl)⟩, rfl, rfl, trivial⟩ ?_)))
     rw [hWSx25] at g22
     exact ⟨none, 0, [], by rw [best_2 hok g22]; rfl, World.ownsRow_nil _ _ _ _, OwnsI.nil _ _ _, by rw [best_2 hok g22]; rfl, Ext.of_below hB⟩
    ·
     replace hc31 := dle hc31
     have g22 := hc31
     refine r_skip (r_seq (r_region' (l_o (o_alloc Try.zeroValue62 rfl rfl ?_))))
     intro b33 w33 hzl33 hzr33 _ hb33 hE33
     have hne_b1_b33 : b1 ≠ b33 := by have := hb1.lt; omega
     have hne_b2_b33 : b2 ≠ b33 := by have := hb2.lt; omega
     have hne_b24_b33 : b24 ≠ b33 := by have := hb24.lt; omega
     have hne_wb25_b33 : wb25 ≠ b33 := by have := hwb25.lt; omega
     have hbs_b33 : w.heap.size ≤ b33 := Nat.le_trans hsz hzl33
     have hWp_b33 := hszW
     have hbW_b33 := Nat.le_trans hszW hzl33
     replace hB := below_ext hB hE33 hsz
     replace hb1 := hb1.ext hE33
     replace hb2 := hb2.ext hE33
     replace hb24 := hb24.ext hE33
     replace hszW := Nat.le_trans hszW hE33.size
     replace hWS25 := hWS25.ext hE33
     replace hWSr25 := hWSr25.ext hE33
     replace hwb25 := hwb25.ext hE33
     replace hMx := hMx.keep (hE33.block m25 hMx.lt (by simp))
     replace hsz := Nat.le_trans hsz hE33.size
     refine l_nil (r_seq (r_region' (l_q (q_makeFunc (v := .func _ ⟨[]⟩ ⟨[_, _, _, _]⟩) rfl rfl) (l_o (o_store (vs := [.func (.func 19) ⟨[]⟩ ⟨[ptr b1 0, ptr b24 0, ptr b2 0, ptr b33 0]⟩]) (cs' := [.func (.func 19) ⟨[]⟩ ⟨[ptr b1 0, ptr b24 0, ptr b2 0, ptr b33 0]⟩]) Try.sizeOf62 rfl rfl rfl rfl hb33 (Nat.le_of_ble_eq_true rfl) rfl rfl ?_)))))
     intro w34 hz34 hb33 hG34
     replace hB := below_upd hB hG34 hsz (by omega)
     replace hsz : w.heap.size ≤ w34.heap.size := by rw [hz34]; exact hsz
     replace hb1 := hb1.upd hG34 (by omega)
     replace hb2 := hb2.upd hG34 (by omega)
     replace hb24 := hb24.upd hG34 (by omega)
     replace hszW := Nat.le_trans hszW hG34.size
     replace hWS25 := Row.upd_out hWS25 hWT25 hfo25 hG34 (by omega)
     replace hWSr25 := RowsI.upd_out hWSr25 hWTr25 hfs25 hG34 (by omega)
     replace hwb25 := hwb25.upd hG34 (by omega)
     replace hMx := hMx.keep (hG34.block m25 hMx.lt (by simp; omega))
     refine l_nil (r_seq (r_draw ext_refl' ext_trans' [0, 3, 1, 2, 4] [1, 4, 1004] 9 (by kernel_rfl) (by kernel_rfl) ?_))
     intro w35 _ hE35
     replace hB := below_ext hB hE35 hsz
     replace hb1 := hb1.ext hE35
     replace hb2 := hb2.ext hE35
     replace hb24 := hb24.ext hE35
     replace hszW := Nat.le_trans hszW hE35.size
     replace hWS25 := hWS25.ext hE35
     replace hWSr25 := hWSr25.ext hE35
     replace hwb25 := hwb25.ext hE35
     replace hMx := hMx.keep (hE35.block m25 hMx.lt (by simp))
     replace hb33 := hb33.ext hE35
     replace hsz := Nat.le_trans hsz hE35.size
     refine m_q rfl rfl (fun w' hC' => q_load Try.isAgg62 rfl (((hb33.has (o := 0) rfl).ext hC')) rfl) (m_q rfl rfl (fun w' hC' => qmi rfl rfl) (m_o rfl rfl (o_call Try.call18 rfl (begun_ret _) rfl ?_)))
     rintro _ w36 ⟨rfl, hE36⟩
     refine ⟨hE36, ?_⟩
     replace hB := below_ext hB hE36 hsz
     replace hb1 := hb1.ext hE36
     replace hb2 := hb2.ext hE36
     replace hb24 := hb24.ext hE36
     replace hszW := Nat.le_trans hszW hE36.size
     replace hWS25 := hWS25.ext hE36
     replace hWSr25 := hWSr25.ext hE36
     replace hwb25 := hwb25.ext hE36
     replace hMx := hMx.keep (hE36.block m25 hMx.lt (by simp))
     replace hb33 := hb33.ext hE36
     replace hsz := Nat.le_trans hsz hE36.size
     refine m_q rfl rfl (fun w' hC' => q_build (v := .agg ⟨((0 : Int) :: stood0).map vint⟩) (spot_build (rfl)) rfl) ?_
     have htwo := lists_two hWSx25 (by omega)
     have hnb : L.map SV.enc ≠ [] → ∀ x, ca = some x → x.block ≠ b2 := fun h0 x hx => by have := hpo.rC.blk_lt h0 x hx; omega
     have hrbW := hb2.lt
     have hWb := hsz
     refine m_last rfl rfl rfl (o_callv (f := 19) (fst := []) (cap := [_, _, _, _]) rfl Try.call19 rfl (rext_ret hok (lists_sm hWSx25 (by rw [upTo_len]; omega)) (lists_on hWSx25 (by rw [upTo_len]; omega) upTo_on) ⟨⟨hpo.below hB, hwb25, hWS25, hWSr25⟩, hMx.unc, hMx.lt, ⟨_, _, _, hb2⟩, hb1, hb24, hb33, htwo, hnb⟩ _ 0 stood0 _ _ _ none 0 [] (Nat.le_refl _) (Nat.zero_le _) rfl stood0_b (FrS.refl _ _) hb2 (World.ownsRow_nil _ _ _ _) (OwnsI.nil _ _ _) (Nat.zero_le _) hMx hMemo) rfl ?_)
     rintro _ w37 ⟨rfl, hEX, hFr⟩
     replace hB := hFr.below hB hsz (by rintro k (h | h | h); omega; omega; cases h)
     replace hsz := Nat.le_trans hsz hFr.size
     obtain ⟨oa, oc, R2, hR⟩ := hEX
     have hrc := hR.cell
     have hro := hR.out
     have hrs := hR.rows
     refine m_nil (r_forget [(2, .pointer _), (3, .int _ _)] ⟨rfl, rfl, trivial⟩ (fun e38 => (r_seq (r_region' (l_q (q_load Try.isAgg22 rfl ((hrc.has (o := 0) rfl)) rfl) (l_q (qmi rfl rfl) (l_o (o_store (vs := [.slice oa ((R2).length) oc]) (cs' := [.slice oa ((R2).length) oc]) Try.sizeOf22 rfl rfl rfl rfl hrc (Nat.le_of_ble_eq_true rfl) rfl rfl ?_))))))))
     intro w39 hz39 hrc hG39
     replace hB := below_upd hB hG39 hsz (by omega)
     replace hsz : w.heap.size ≤ w39.heap.size := by rw [hz39]; exact hsz
     replace hro := own_updlt hro hG39 (by omega)
     replace hrs := (fun s hs => own_updlt (hrs s hs) hG39 (by omega))
     refine l_q (qai rfl rfl) (l_q (qai rfl rfl) (l_nil (r_ret_ (vs := [.slice _ _ _, .int _ _, .int _ _]) rfl Try.func4 rfl (.nil _) ⟨⟨_, _, rfl, run_loadVar1 Try.isAgg22 (hrc.has (o := 0) rfl)⟩, rfl, rfl, trivial⟩ ?_)))
     have hmp := hR.map
     rw [hWSx25] at g22 hmp
     exact ⟨oa, oc, R2, by rw [best_3 hok g22, hWSx25]; rfl, own_mono hro hWb, OwnsI.mono hrs hWb, by rw [best_3 hok g22]; exact hmp, Ext.of_below hB⟩
  ·
   refine m_o3 rfl rfl (o_alloc Try.zeroValue51 rfl rfl ?_)
   intro b40 w40 hzl40 hzr40 _ hb40 hE40
   refine ⟨hE40, ?_⟩
   have hne_b1_b40 : b1 ≠ b40 := by have := hb1.lt; omega
   have hne_b2_b40 : b2 ≠ b40 := by have := hb2.lt; omega
   have hbs_b40 : w.heap.size ≤ b40 := Nat.le_trans hsz hzl40
   replace hB := below_ext hB hE40 hsz
   replace hb1 := hb1.ext hE40
   replace hb2 := hb2.ext hE40
   replace hsz := Nat.le_trans hsz hE40.size
   refine m_o3 rfl rfl (o_call Try.call16 rfl (everybody_ret na nc nd pa pc pl ca cc L _ (by omega)) rfl ?_)
   rintro _ w41 ⟨a41_0, c41_0, rfl, ho41_0, hE41⟩
   replace ho41_0 := own_mono ho41_0 (show w.heap.size ≤ _ by omega)
   refine ⟨hE41, ?_⟩
   replace hB := below_ext hB hE41 hsz
   replace hb1 := hb1.ext hE41
   replace hb2 := hb2.ext hE41
   replace hb40 := hb40.ext hE41
   replace hsz := Nat.le_trans hsz hE41.size
   have hlw_b1 := hb1.lt
   have hlw_b2 := hb2.lt
   have hlw_b40 := hb40.lt
   refine m_o3 rfl rfl (o_call Try.call15 rfl (work_ret na nc nd pa pc pl ca cc L _ _ (upTo pl.length) _ (Row.of_owns ho41_0) (by omega) (by omega)) rfl ?_)
   rintro _ w42 ⟨wb42, m42, woa42, woc42, WS42, rfl, hbw42, hbm42, hM42, hwb42, hWS42, hWSr42, hWSx42, hfo42, hfs42, hE42⟩
   have hbs_wb42 : w.heap.size ≤ wb42 := Nat.le_trans hsz hbw42
   have hbs_m42 : w.heap.size ≤ m42 := Nat.le_trans hsz hbm42
   refine ⟨hE42, ?_⟩
   replace hB := below_ext hB hE42 hsz
   replace hb1 := hb1.ext hE42
   replace hb2 := hb2.ext hE42
   replace hb40 := hb40.ext hE42
   replace hsz := Nat.le_trans hsz hE42.size
   have hmW42 := hM42.lt
   have hwW42 := hwb42.lt
   have hMw := hM42
   have hWT42 := hWS42
   have hWTr42 := hWSr42
   have hszW := Nat.le_refl w42.heap.size
   refine m_last3 rfl rfl rfl (o_store (vs := [ptr wb42 0]) (cs' := [ptr wb42 0]) Try.sizeOf51 rfl rfl rfl rfl hb40 (Nat.le_of_ble_eq_true rfl) rfl rfl ?_)
   intro w43 hz43 hb40 hG43
   replace hB := below_upd hB hG43 hsz (by omega)
   replace hsz : w.heap.size ≤ w43.heap.size := by rw [hz43]; exact hsz
   replace hb1 := hb1.upd hG43 (by omega)
   replace hb2 := hb2.upd hG43 (by omega)
   replace hMw := hMw.keep (hG43.block m42 hMw.lt (by simp; omega))
   replace hszW := Nat.le_trans hszW hG43.size
   replace hWS42 := Row.upd_out hWS42 hWT42 hfo42 hG43 (by omega)
   replace hWSr42 := RowsI.upd_out hWSr42 hWTr42 hfs42 hG43 (by omega)
   replace hwb42 := hwb42.upd hG43 (by omega)
   refine m_nil3 (r_forget [(1, .pointer _), (2, .pointer _), (6, .pointer _)] ⟨rfl, rfl, rfl, trivial⟩ (fun e44 => (r_seq (r_draw ext_refl' ext_trans' [0, 1, 2, 3, 4] [1, 3, 1003] 9 (by kernel_rfl) (by kernel_rfl) ?_))))
   intro w45 _ hE45
   replace hB := below_ext hB hE45 hsz
   replace hb1 := hb1.ext hE45
   replace hb2 := hb2.ext hE45
   replace hb40 := hb40.ext hE45
   replace hMw := hMw.keep (hE45.block m42 hMw.lt (by simp))
   replace hszW := Nat.le_trans hszW hE45.size
   replace hWS42 := hWS42.ext hE45
   replace hWSr42 := hWSr42.ext hE45
   replace hwb42 := hwb42.ext hE45
   replace hsz := Nat.le_trans hsz hE45.size
   refine m_q rfl rfl (fun w' hC' => q_load Try.isAgg51 rfl (((hb40.has (o := 0) rfl).ext hC')) rfl) (m_o rfl rfl (o_call Try.call18 rfl (begun_ret _) rfl ?_))
   rintro _ w46 ⟨rfl, hE46⟩
   refine ⟨hE46, ?_⟩
   replace hB := below_ext hB hE46 hsz
   replace hb1 := hb1.ext hE46
   replace hb2 := hb2.ext hE46
   replace hb40 := hb40.ext hE46
   replace hMw := hMw.keep (hE46.block m42 hMw.lt (by simp))
   replace hszW := Nat.le_trans hszW hE46.size
   replace hWS42 := hWS42.ext hE46
   replace hWSr42 := hWSr42.ext hE46
   replace hwb42 := hwb42.ext hE46
   replace hsz := Nat.le_trans hsz hE46.size
   refine m_q rfl rfl (fun w' hC' => q_build (v := .agg ⟨((0 : Int) :: stood0).map vint⟩) (spot_build (rfl)) rfl) (m_last rfl rfl rfl (o_call Try.call17 rfl (rfew_ret hok (lists_sm hWSx42 (by omega)) (lists_on hWSx42 (by omega) upTo_on) _ 0 stood0 _ _ _ (Nat.le_refl _) (Nat.zero_le _) rfl stood0_b ⟨hpo.below hB, hwb42, hWS42, hWSr42⟩ hMw smemo_nil) rfl ?_))
   rintro _ w47 ⟨rfl, esc47, ckc47, hMc47, hMm47, hGc47⟩
   replace hB := below_upd hB hGc47 hsz hbs_m42
   replace hsz := Nat.le_trans hsz hGc47.size
   replace hb1 := hb1.gm hMw hGc47
   replace hb2 := hb2.gm hMw hGc47
   replace hb40 := hb40.gm hMw hGc47
   replace hszW := Nat.le_trans hszW hGc47.size
   replace hWS42 := hWS42.gm hMw hGc47
   replace hWSr42 := hWSr42.gm hMw hGc47
   replace hwb42 := hwb42.gm hMw hGc47
   have hMx := hMc47
   have hMemo := hMm47
   refine m_q rfl rfl (fun w' hC' => qai rfl rfl) (m_nil (r_seq (r_seq (r_region' (l_q (qmi rfl rfl) (l_q (q_geq rfl rfl rfl) (l_nil (r_cond rfl (fun hc48 => ?_) (fun hc48 => ?_)))))))))
   ·
    replace hc48 := dt hc48
    have g22 := hc48
    refine r_seq (r_region' (l_o (o_store (vs := [.slice none 0 0]) (cs' := [.slice none 0 0]) Try.sizeOf22 rfl rfl rfl rfl hb2 (Nat.le_of_ble_eq_true rfl) rfl rfl ?_)))
    intro w49 hz49 hb2 hG49
    replace hB := below_upd hB hG49 hsz (by omega)
    replace hsz : w.heap.size ≤ w49.heap.size := by rw [hz49]; exact hsz
    replace hb1 := hb1.upd hG49 (by omega)
    replace hb40 := hb40.upd hG49 (by omega)
    replace hszW := Nat.le_trans hszW hG49.size
    replace hWS42 := Row.upd_out hWS42 hWT42 hfo42 hG49 (by omega)
    replace hWSr42 := RowsI.upd_out hWSr42 hWTr42 hfs42 hG49 (by omega)
    replace hwb42 := hwb42.upd hG49 (by omega)
    replace hMx := hMx.keep (hG49.block m42 hMx.lt (by simp; omega))
    refine l_q (qai rfl rfl) (l_q (qai rfl rfl) (l_nil (r_ret_ (vs := [.slice _ _ _, .int _ _, .int _ _]) rfl Try.func4 rfl (.nil _) ⟨⟨_, _, rfl, run_loadVar1 Try.isAgg22 (hb2.has (o := 0) rfl)⟩, rfl, rfl, trivial⟩ ?_)))
    rw [hWSx42] at g22
    exact ⟨none, 0, [], by rw [best_2 hok g22]; rfl, World.ownsRow_nil _ _ _ _, OwnsI.nil _ _ _, by rw [best_2 hok g22]; rfl, Ext.of_below hB⟩
   ·
    replace hc48 := dle hc48
    have g22 := hc48
    refine r_skip (r_seq (r_region' (l_o (o_alloc Try.zeroValue62 rfl rfl ?_))))
    intro b50 w50 hzl50 hzr50 _ hb50 hE50
    have hne_b1_b50 : b1 ≠ b50 := by have := hb1.lt; omega
    have hne_b2_b50 : b2 ≠ b50 := by have := hb2.lt; omega
    have hne_b40_b50 : b40 ≠ b50 := by have := hb40.lt; omega
    have hne_wb42_b50 : wb42 ≠ b50 := by have := hwb42.lt; omega
    have hbs_b50 : w.heap.size ≤ b50 := Nat.le_trans hsz hzl50
    have hWp_b50 := hszW
    have hbW_b50 := Nat.le_trans hszW hzl50
    replace hB := below_ext hB hE50 hsz
    replace hb1 := hb1.ext hE50
    replace hb2 := hb2.ext hE50
    replace hb40 := hb40.ext hE50
    replace hszW := Nat.le_trans hszW hE50.size
    replace hWS42 := hWS42.ext hE50
    replace hWSr42 := hWSr42.ext hE50
    replace hwb42 := hwb42.ext hE50
    replace hMx := hMx.keep (hE50.block m42 hMx.lt (by simp))
    replace hsz := Nat.le_trans hsz hE50.size
    refine l_nil (r_seq (r_region' (l_q (q_makeFunc (v := .func _ ⟨[]⟩ ⟨[_, _, _, _]⟩) rfl rfl) (l_o (o_store (vs := [.func (.func 19) ⟨[]⟩ ⟨[ptr b1 0, ptr b40 0, ptr b2 0, ptr b50 0]⟩]) (cs' := [.func (.func 19) ⟨[]⟩ ⟨[ptr b1 0, ptr b40 0, ptr b2 0, ptr b50 0]⟩]) Try.sizeOf62 rfl rfl rfl rfl hb50 (Nat.le_of_ble_eq_true rfl) rfl rfl ?_)))))
    intro w51 hz51 hb50 hG51
    replace hB := below_upd hB hG51 hsz (by omega)
    replace hsz : w.heap.size ≤ w51.heap.size := by rw [hz51]; exact hsz
    replace hb1 := hb1.upd hG51 (by omega)
    replace hb2 := hb2.upd hG51 (by omega)
    replace hb40 := hb40.upd hG51 (by omega)
    replace hszW := Nat.le_trans hszW hG51.size
    replace hWS42 := Row.upd_out hWS42 hWT42 hfo42 hG51 (by omega)
    replace hWSr42 := RowsI.upd_out hWSr42 hWTr42 hfs42 hG51 (by omega)
    replace hwb42 := hwb42.upd hG51 (by omega)
    replace hMx := hMx.keep (hG51.block m42 hMx.lt (by simp; omega))
    refine l_nil (r_seq (r_draw ext_refl' ext_trans' [0, 3, 1, 2, 4] [1, 4, 1004] 9 (by kernel_rfl) (by kernel_rfl) ?_))
    intro w52 _ hE52
    replace hB := below_ext hB hE52 hsz
    replace hb1 := hb1.ext hE52
    replace hb2 := hb2.ext hE52
    replace hb40 := hb40.ext hE52
    replace hszW := Nat.le_trans hszW hE52.size
    replace hWS42 := hWS42.ext hE52
    replace hWSr42 := hWSr42.ext hE52
    replace hwb42 := hwb42.ext hE52
    replace hMx := hMx.keep (hE52.block m42 hMx.lt (by simp))
    replace hb50 := hb50.ext hE52
    replace hsz := Nat.le_trans hsz hE52.size
    refine m_q rfl rfl (fun w' hC' => q_load Try.isAgg62 rfl (((hb50.has (o := 0) rfl).ext hC')) rfl) (m_q rfl rfl (fun w' hC' => qmi rfl rfl) (m_o rfl rfl (o_call Try.call18 rfl (begun_ret _) rfl ?_)))
    rintro _ w53 ⟨rfl, hE53⟩
    refine ⟨hE53, ?_⟩
    replace hB := below_ext hB hE53 hsz
    replace hb1 := hb1.ext hE53
    replace hb2 := hb2.ext hE53
    replace hb40 := hb40.ext hE53
    replace hszW := Nat.le_trans hszW hE53.size
    replace hWS42 := hWS42.ext hE53
    replace hWSr42 := hWSr42.ext hE53
    replace hwb42 := hwb42.ext hE53
    replace hMx := hMx.keep (hE53.block m42 hMx.lt (by simp))
    replace hb50 := hb50.ext hE53
    replace hsz := Nat.le_trans hsz hE53.size
    refine m_q rfl rfl (fun w' hC' => q_build (v := .agg ⟨((0 : Int) :: stood0).map vint⟩) (spot_build (rfl)) rfl) ?_
    have htwo := lists_two hWSx42 (by omega)
    have hnb : L.map SV.enc ≠ [] → ∀ x, ca = some x → x.block ≠ b2 := fun h0 x hx => by have := hpo.rC.blk_lt h0 x hx; omega
    have hrbW := hb2.lt
    have hWb := hsz
    refine m_last rfl rfl rfl (o_callv (f := 19) (fst := []) (cap := [_, _, _, _]) rfl Try.call19 rfl (rext_ret hok (lists_sm hWSx42 (by rw [upTo_len]; omega)) (lists_on hWSx42 (by rw [upTo_len]; omega) upTo_on) ⟨⟨hpo.below hB, hwb42, hWS42, hWSr42⟩, hMx.unc, hMx.lt, ⟨_, _, _, hb2⟩, hb1, hb40, hb50, htwo, hnb⟩ _ 0 stood0 _ _ _ none 0 [] (Nat.le_refl _) (Nat.zero_le _) rfl stood0_b (FrS.refl _ _) hb2 (World.ownsRow_nil _ _ _ _) (OwnsI.nil _ _ _) (Nat.zero_le _) hMx hMemo) rfl ?_)
    rintro _ w54 ⟨rfl, hEX, hFr⟩
    replace hB := hFr.below hB hsz (by rintro k (h | h | h); omega; omega; cases h)
    replace hsz := Nat.le_trans hsz hFr.size
    obtain ⟨oa, oc, R2, hR⟩ := hEX
    have hrc := hR.cell
    have hro := hR.out
    have hrs := hR.rows
    refine m_nil (r_forget [(2, .pointer _), (3, .int _ _)] ⟨rfl, rfl, trivial⟩ (fun e55 => (r_seq (r_region' (l_q (q_load Try.isAgg22 rfl ((hrc.has (o := 0) rfl)) rfl) (l_q (qmi rfl rfl) (l_o (o_store (vs := [.slice oa ((R2).length) oc]) (cs' := [.slice oa ((R2).length) oc]) Try.sizeOf22 rfl rfl rfl rfl hrc (Nat.le_of_ble_eq_true rfl) rfl rfl ?_))))))))
    intro w56 hz56 hrc hG56
    replace hB := below_upd hB hG56 hsz (by omega)
    replace hsz : w.heap.size ≤ w56.heap.size := by rw [hz56]; exact hsz
    replace hro := own_updlt hro hG56 (by omega)
    replace hrs := (fun s hs => own_updlt (hrs s hs) hG56 (by omega))
    refine l_q (qai rfl rfl) (l_q (qai rfl rfl) (l_nil (r_ret_ (vs := [.slice _ _ _, .int _ _, .int _ _]) rfl Try.func4 rfl (.nil _) ⟨⟨_, _, rfl, run_loadVar1 Try.isAgg22 (hrc.has (o := 0) rfl)⟩, rfl, rfl, trivial⟩ ?_)))
    have hmp := hR.map
    rw [hWSx42] at g22 hmp
    exact ⟨oa, oc, R2, by rw [best_3 hok g22, hWSx42]; rfl, own_mono hro hWb, OwnsI.mono hrs hWb, by rw [best_3 hok g22]; exact hmp, Ext.of_below hB⟩
end Go.Proofs.Ytbikicakdkbcgaa
