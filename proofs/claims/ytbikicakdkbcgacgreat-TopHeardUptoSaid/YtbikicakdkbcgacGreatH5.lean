/- Contracts. -/
import Derived.Test.YtbikicakdkbcgacGreatH4
set_option linter.unusedVariables false
set_option linter.unusedSimpArgs false
namespace Go.Proofs.YtbikicakdkbcgacGreat
open Go Go.RowKit Go.Gv Go.Fl

/-! ### What blocks, and why -/
def cldB (a b : S4) (h : Int) (c : CL) : Bool := (decide (c.fr ≤ h) && decide (h ≤ c.to)) && blkF c.wl a b
theorem cld_no1 {a b : S4} {h : Int} {c : CL} (g : ¬(c.fr ≤ h ∧ h ≤ c.to)) : cldB a b h c = false := by
  unfold cldB
  rw [show (decide (c.fr ≤ h) && decide (h ≤ c.to)) = false from by rw [← Bool.not_eq_true, Bool.and_eq_true, decide_eq_true_eq, decide_eq_true_eq]; exact g]; rfl
theorem cld_no2 {a b : S4} {h : Int} {c : CL} (g : blkF c.wl a b = false) : cldB a b h c = false := by unfold cldB; rw [g, Bool.and_false]
theorem cld_yes {a b : S4} {h : Int} {c : CL} (g1 : c.fr ≤ h ∧ h ≤ c.to) (g2 : blkF c.wl a b = true) : cldB a b h c = true := by
  unfold cldB
  rw [decide_eq_true g1.1, decide_eq_true g1.2, g2]; rfl
def whyF (sl : List S4) (rl : List WL) (kl : List KV) (ul : List S3) (i j k h : Nat) : Int :=
  if (ul.getD h s30).u ≤ 0 then 1 else if (sl.getD i s40).m < mirF (sl.getD i s40) (sl.getD j s40) (ul.getD h s30) then 2
  else if rdgF sl rl i j = true then 3 else if (kl.getD k kv0).xs.any (cldB (sl.getD i s40) (sl.getD j s40) (h : Int)) = true then 4 else 0
def canF (sl : List S4) (rl : List WL) (kl : List KV) (ul : List S3) (i j k h : Nat) : Bool := !decide (i = j) && decide (whyF sl rl kl ul i j k h = 0)
section
variable {sl : List S4} {rl : List WL} {kl : List KV} {ul : List S3} {i j k h : Nat}
theorem why_1 (h1 : (ul.getD h s30).u ≤ 0) : whyF sl rl kl ul i j k h = 1 := if_pos h1
theorem why_2 (h1 : 0 < (ul.getD h s30).u) (h2 : (sl.getD i s40).m < mirF (sl.getD i s40) (sl.getD j s40) (ul.getD h s30)) : whyF sl rl kl ul i j k h = 2 := by unfold whyF; rw [if_neg (by omega), if_pos h2]
theorem why_3 (h1 : 0 < (ul.getD h s30).u) (h2 : mirF (sl.getD i s40) (sl.getD j s40) (ul.getD h s30) ≤ (sl.getD i s40).m) (h3 : rdgF sl rl i j = true) : whyF sl rl kl ul i j k h = 3 := by unfold whyF; rw [if_neg (by omega), if_neg (by omega), if_pos h3]
theorem why_4 {c : Nat} (h1 : 0 < (ul.getD h s30).u) (h2 : mirF (sl.getD i s40) (sl.getD j s40) (ul.getD h s30) ≤ (sl.getD i s40).m) (h3 : rdgF sl rl i j = false) (hc : c < (kl.getD k kv0).xs.length) (h4 : cldB (sl.getD i s40) (sl.getD j s40) (h : Int) ((kl.getD k kv0).xs.getD c cl0) = true) : whyF sl rl kl ul i j k h = 4 := by
  unfold whyF; rw [if_neg (by omega), if_neg (by omega), if_neg (by rw [h3]; decide), if_pos (by rw [List.any_eq_true]; exact ⟨_, getD_lt hc, h4⟩)]
theorem why_0 (h1 : 0 < (ul.getD h s30).u) (h2 : mirF (sl.getD i s40) (sl.getD j s40) (ul.getD h s30) ≤ (sl.getD i s40).m) (h3 : rdgF sl rl i j = false) (h4 : ∀ c, c < (kl.getD k kv0).xs.length → cldB (sl.getD i s40) (sl.getD j s40) (h : Int) ((kl.getD k kv0).xs.getD c cl0) = false) : whyF sl rl kl ul i j k h = 0 := by
  unfold whyF; rw [if_neg (by omega), if_neg (by omega), if_neg (by rw [h3]; decide), if_neg]
  rw [List.any_eq_true]
  rintro ⟨x, hx, h5⟩
  obtain ⟨c, hc, rfl⟩ := List.mem_iff_getElem.1 hx
  have h6 := h4 c hc
  rw [show (kl.getD k kv0).xs.getD c cl0 = (kl.getD k kv0).xs[c] from by rw [List.getD_eq_getElem?_getD, List.getElem?_eq_getElem hc]; rfl] at h6
  exact absurd (h5.symm.trans h6) (by decide)
end
/-- what lay in a world lies in the next one, but for two blocks -/
structure Kp (p q : Nat) (w0 w : World) : Prop where
  size : w0.heap.size ≤ w.heap.size
  keep : ∀ k, k < w0.heap.size → k ≠ p → k ≠ q → w.heap[k]? = w0.heap[k]?
section
variable {p q j N m ck : Nat} {w0 w w' : World} {es : List MapEntry} {sl : List S4} {rl : List WL}
theorem Kp.refl (p q : Nat) (w : World) : Kp p q w w := ⟨Nat.le_refl _, fun _ _ _ _ => rfl⟩
theorem Kp.ext (h : Kp p q w0 w) (hE : Ext w w') : Kp p q w0 w' := ⟨Nat.le_trans h.size hE.size, fun k hk h1 h2 => (hE.block k (Nat.lt_of_lt_of_le hk h.size) (by simp)).trans (h.keep k hk h1 h2)⟩
theorem Kp.upd (h : Kp p q w0 w) (hg : w.grownBy w' (some j)) (hj : j = p ∨ j = q ∨ w0.heap.size ≤ j) : Kp p q w0 w' :=
  ⟨Nat.le_trans h.size hg.size, fun k hk h1 h2 => (hg.block k (Nat.lt_of_lt_of_le hk h.size) (fun he => by cases he; omega)).trans (h.keep k hk h1 h2)⟩
theorem Kp.below (h : Kp p q w0 w) (hB : Below N w w') (hN : w0.heap.size ≤ N) : Kp p q w0 w' := ⟨Nat.le_trans h.size hB.size, fun k hk h1 h2 => (hB.block k (by omega)).trans (h.keep k hk h1 h2)⟩
theorem _root_.Go.Gv.MapAt.kp (hM : MapAt w0 m es ck) (h : Kp p q w0 w) (h1 : m ≠ p) (h2 : m ≠ q) : MapAt w m es ck := hM.keep (h.keep m hM.lt h1 h2)
theorem row_kp {a : Option Addr} {c : Nat} {xs : List Int} (hr : Row w0 a xs.length c 1 (xs.map vint)) (h : Kp p q w0 w) (h1 : AwayS p a xs.length) (h2 : AwayS q a xs.length) : Row w a xs.length c 1 (xs.map vint) := by
  have hl := row_lt2 hr
  obtain ⟨hr1, hr2, hr3⟩ := hr
  refine ⟨hr1, hr2, hr3.imp id ?_⟩
  rintro ⟨b, o, ha, hc⟩
  refine ⟨b, o, ha, fun t v hv => ?_⟩
  have h0 : 0 < xs.length := by
    cases xs with
    | nil => simp at hv
    | cons y l => simp
  have h3 : b < w0.heap.size := hl h0 _ ha
  have h4 := hc t v hv
  unfold Has World.cell? at h4 ⊢
  rw [h.keep b h3 (h1 h0 _ ha) (h2 h0 _ ha)]
  exact h4
theorem row_upd1 {b : Nat} {a : Option Addr} {c : Nat} {xs : List Int} (hr : Row w a xs.length c 1 (xs.map vint)) (hG : w.grownBy w' (some b)) (h1 : AwayS b a xs.length) : Row w' a xs.length c 1 (xs.map vint) := row_kp hr ((Kp.refl b b w).upd hG (.inl rfl)) h1 h1
theorem MemoR.kp (hm : MemoR w0 sl rl es) (h : Kp p q w0 w) (h1 : Away p es) (h2 : Away q es) : MemoR w sl rl es := fun en hen => by
  obtain ⟨i, j, a, c, xs, e1, e2, e3, e4⟩ := hm en hen
  exact ⟨i, j, a, c, xs, e1, e2, row_kp e3 h (h1 en hen _ _ _ e2) (h2 en hen _ _ _ e2), e4⟩
end

theorem okCl_wl {n : Nat} {c : CL} (h : okCl n c = true) : okWl c.wl = true := by unfold okCl at h; exact (Bool.and_eq_true_iff.1 h).1


theorem hclouds_ret (wb i j ki h : Nat) (w : World) : Ret Tryz.prog 71 [ptr wb 0, .agg ⟨[vint (i : Int), vint (j : Int)]⟩, vint (ki : Int), vint (h : Int)] w (fun v w' => ∃ b1 b2 b3 b4, v = .func (.func 109) ⟨[]⟩ ⟨[ptr b1 0, ptr b2 0, ptr b3 0, ptr b4 0]⟩ ∧ w.heap.size ≤ b1 ∧ w.heap.size ≤ b2 ∧ w.heap.size ≤ b3 ∧ w.heap.size ≤ b4 ∧ Blk w' b1 [ptr wb 0] ∧ Blk w' b2 [vint (ki : Int)] ∧ Blk w' b3 [vint (h : Int)] ∧ Blk w' b4 [vint (i : Int), vint (j : Int)] ∧ Ext w w') := by
 have hB := Below.refl w.heap.size w
 have hsz : w.heap.size ≤ w.heap.size := Nat.le_refl _
 refine ret_of_runs (args := [_, _, _, _]) Tryz.func71 rfl (Nat.le_of_ble_eq_true rfl) (by kernel_rfl) (r_seq (r_region' (l_o (o_box rfl rfl rfl ?_))))
 intro b1 w1 hzl1 hzr1 _ hb1 hE1
 have hbs_b1 : w.heap.size ≤ b1 := Nat.le_trans hsz hzl1
 replace hB := below_ext hB hE1 hsz
 replace hsz := Nat.le_trans hsz hE1.size
 refine l_o (o_box rfl rfl rfl ?_)
 intro b2 w2 hzl2 hzr2 _ hb2 hE2
 have hbs_b2 : w.heap.size ≤ b2 := Nat.le_trans hsz hzl2
 replace hB := below_ext hB hE2 hsz
 replace hb1 := hb1.ext hE2
 replace hsz := Nat.le_trans hsz hE2.size
 refine l_o (o_box rfl rfl rfl ?_)
 intro b3 w3 hzl3 hzr3 _ hb3 hE3
 have hbs_b3 : w.heap.size ≤ b3 := Nat.le_trans hsz hzl3
 replace hB := below_ext hB hE3 hsz
 replace hb1 := hb1.ext hE3
 replace hb2 := hb2.ext hE3
 replace hsz := Nat.le_trans hsz hE3.size
 refine l_o (o_box rfl rfl rfl ?_)
 intro b4 w4 hzl4 hzr4 _ hb4 hE4
 have hbs_b4 : w.heap.size ≤ b4 := Nat.le_trans hsz hzl4
 replace hB := below_ext hB hE4 hsz
 replace hb1 := hb1.ext hE4
 replace hb2 := hb2.ext hE4
 replace hb3 := hb3.ext hE4
 replace hsz := Nat.le_trans hsz hE4.size
 refine l_q (q_assign (v := .nilFunc) rfl rfl) (l_nil (r_seq (r_region' (l_q (q_makeFunc (v := .func _ ⟨[]⟩ ⟨[_, _, _, _]⟩) rfl rfl) (l_q (q_assign (v := .func _ _ _) rfl rfl) (l_nil (r_ret_ (vs := [.func _ _ _]) rfl Tryz.func71 rfl (.nil _) ⟨rfl, trivial⟩ ?_)))))))
 exact ⟨b1, b3, b4, b2, rfl, hbs_b1, hbs_b3, hbs_b4, hbs_b2, hb1, hb3, hb4, hb2, Ext.of_below hB⟩
theorem hclouds1_ret (l p1 p2 p3 p4 : Nat) (sa : Option Addr) (sc : Nat) (sl : List S4) (ra : Option Addr) (rc : Nat) (rl : List WL) (ka : Option Addr) (kc : Nat) (kl : List KV) (ua : Option Addr) (uc : Nat) (ul : List S3) (wb m : Nat) (i j ki h : Nat) (J : Nat → World → Prop) (E : World → Prop) (w : World) (hok : OkL sl rl kl ul) (hgi : i < sl.length) (hgj : j < sl.length) (hgk : ki < kl.length) (hgh : h < ul.length) (h0 : J 0 w) (hJb : ∀ c w, J c w → Blk w p1 [ptr wb 0] ∧ Blk w p2 [vint (ki : Int)] ∧ Blk w p3 [vint (h : Int)] ∧ Blk w p4 [vint (i : Int), vint (j : Int)] ∧ HwH w sa sc sl ra rc rl ka kc kl ua uc ul wb m) (hJs : ∀ c w1 w2, J c w1 → Below w.heap.size w1 w2 → J c w2) (hskip : ∀ c w1, c < (kl.getD ki kv0).xs.length → J c w1 → cldB (sl.getD i s40) (sl.getD j s40) (h : Int) ((kl.getD ki kv0).xs.getD c cl0) = false → J (c + 1) w1) (hy : ∀ c w1, c < (kl.getD ki kv0).xs.length → J c w1 → w.heap.size ≤ w1.heap.size → cldB (sl.getD i s40) (sl.getD j s40) (h : Int) ((kl.getD ki kv0).xs.getD c cl0) = true → YieldAt Tryz.prog l [vint (c : Int)] w1 (fun v w2 => ∃ y : Bool, v = .bool y ∧ (y = true → J (c + 1) w2) ∧ (y = false → E w2) ∧ w1.heap.size ≤ w2.heap.size)) : Ret Tryz.prog 109 [.func (.yield l) ⟨[]⟩ ⟨[]⟩, ptr p1 0, ptr p2 0, ptr p3 0, ptr p4 0] w (fun v w' => J (kl.getD ki kv0).xs.length w' ∨ E w') := by
 have hs6 := hok.s6
 have hr6 := hok.r6
 have hk4 := hok.k4
 have hu12 := hok.u12
 have hs0 := hok.s0
 have hk0 := hok.k0
 have hu0 := hok.u0
 have hfw := hok.few ki hgk
 have hJ := h0
 have hsz : w.heap.size ≤ w.heap.size := Nat.le_refl _
 refine ret_of_runs (args := [_, _, _, _, _]) Tryz.func109 rfl (Nat.le_of_ble_eq_true rfl) (by kernel_rfl) (r_seq (r_draw ext_refl' ext_trans' [0, 1, 2, 3, 4, 5, 6, 7, 8, 9] [] 12 (by kernel_rfl) (by kernel_rfl) ?_))
 intro w1 _ hE1
 replace hJ := hJs _ _ _ hJ (below_ext_of hE1 hsz)
 replace hsz := Nat.le_trans hsz hE1.size
 refine m_q rfl rfl (fun w' hC' => q_load Tryz.isAgg74 rfl ((((hJb _ _ hJ).1.has (o := 0) rfl).ext hC')) rfl) (m_q rfl rfl (fun w' hC' => q_nilCheck rfl rfl) (m_q rfl rfl (fun w' hC' => q_fieldAddr (o' := 0) rfl fld99_0 rfl) (m_q rfl rfl (fun w' hC' => q_fieldAddr (o' := 2) rfl fld52_2 rfl) (m_q rfl rfl (fun w' hC' => q_load Tryz.isAgg49 rfl ((((hJb _ _ hJ).2.2.2.2.blk.has (o := 2) rfl).ext hC')) rfl) (m_q rfl rfl (fun w' hC' => q_load Tryz.isAgg3 rfl ((((hJb _ _ hJ).2.1.has (o := 0) rfl).ext hC')) rfl) ?_)))))
 obtain ⟨b2, o2, ha2, hh2⟩ := (hJb _ _ hJ).2.2.2.2.lan.rk.at1 ki ((kl).getD ki kv0) (getD_some (by omega))
 refine m_q rfl rfl (fun w' hC' => q_indexAddr1 Tryz.underlying49 Tryz.sizeOf85 rfl ha2 rfl (by omega) rfl) (m_q rfl rfl (fun w' hC' => q_load Tryz.isAgg85 rfl ((hh2.ext hC')) rfl) (m_q rfl rfl (fun w' hC' => q_len rfl Tryz.underlying85 rfl rfl) (m_q rfl rfl (fun w' hC' => qmi rfl rfl) (m_nil (r_block (r_rounds (α := Nat) (fun c e wl => Knows e [(0, .func (.yield l) ⟨[]⟩ ⟨[]⟩), (1, ptr p1 0), (3, ptr p3 0), (4, ptr p4 0), (15, .slice (((kl).getD ki kv0).a) (((kl).getD ki kv0).xs.length) (((kl).getD ki kv0).c)), (16, vint (((kl).getD ki kv0).xs.length : Int)), (17, vint (c : Int))] ∧ (c ≤ (kl.getD ki kv0).xs.length) ∧ (J c wl) ∧ (w.heap.size ≤ wl.heap.size)) (fun c => (kl.getD ki kv0).xs.length - c) 0 ?_ ?_))))))
 ·
  exact ⟨⟨rfl, rfl, rfl, rfl, rfl, rfl, rfl, trivial⟩, (Nat.zero_le _), hJ, hsz⟩
 ·
  rintro c el3 wl3 ⟨hkn, hkc, hJ, hsz⟩ ih3
  obtain ⟨e3, rfl⟩ := knows_env hkn
  refine r_seq (r_region' (l_q (q_lss rfl rfl rfl) (l_nil (r_seq (r_cond rfl (fun hc4 => ?_) (fun hc4 => ?_))))))
  ·
   replace hc4 := dt hc4
   have hcX : c < (kl.getD ki kv0).xs.length := by omega
   refine r_skip (r_seq (r_block (r_seq (r_region' (l_q (qmi rfl rfl) ?_)))))
   obtain ⟨b5, o5, ha5, hh5⟩ := (RowsK.get ((hJb _ _ hJ).2.2.2.2.lan.rkr) (i := ki) (by omega)).at (by decide) c (by omega)
   refine l_q (q_indexAddr Tryz.underlying85 Tryz.sizeOf103 rfl ha5 rfl (by omega) rfl) (l_q (q_load_agg (cs := [vint ((((((kl).getD ki kv0).xs)).getD c cl0).x1), vint ((((((kl).getD ki kv0).xs)).getD c cl0).y1), vint ((((((kl).getD ki kv0).xs)).getD c cl0).x2), vint ((((((kl).getD ki kv0).xs)).getD c cl0).y2), vint ((((((kl).getD ki kv0).xs)).getD c cl0).ba), vint ((((((kl).getD ki kv0).xs)).getD c cl0).tp), vint ((((((kl).getD ki kv0).xs)).getD c cl0).fr), vint ((((((kl).getD ki kv0).xs)).getD c cl0).to)]) (n := 8) Tryz.isAgg103 Tryz.sizeOf103 rfl ((cells_cast (wide_at CL.len cl0 _ _ (by omega)) hh5)) rfl rfl) (l_o (o_alloc Tryz.zeroValue103 rfl rfl ?_)))
   intro b6 w6 hzl6 hzr6 _ hb6 hE6
   have hne_p1_b6 : p1 ≠ b6 := by have := (hJb _ _ hJ).1.lt; omega
   have hne_p2_b6 : p2 ≠ b6 := by have := (hJb _ _ hJ).2.1.lt; omega
   have hne_p3_b6 : p3 ≠ b6 := by have := (hJb _ _ hJ).2.2.1.lt; omega
   have hne_p4_b6 : p4 ≠ b6 := by have := (hJb _ _ hJ).2.2.2.1.lt; omega
   have hne_wb_b6 : wb ≠ b6 := by have := (hJb _ _ hJ).2.2.2.2.blk.lt; omega
   have hbs_b6 : w.heap.size ≤ b6 := Nat.le_trans hsz hzl6
   replace hJ := hJs _ _ _ hJ (below_ext_of hE6 hsz)
   replace hsz := Nat.le_trans hsz hE6.size
   refine l_q (qai rfl rfl) ?_
   refine l_o (o_store (vs := [vint ((((((kl).getD ki kv0).xs)).getD c cl0).x1), vint ((((((kl).getD ki kv0).xs)).getD c cl0).y1), vint ((((((kl).getD ki kv0).xs)).getD c cl0).x2), vint ((((((kl).getD ki kv0).xs)).getD c cl0).y2), vint ((((((kl).getD ki kv0).xs)).getD c cl0).ba), vint ((((((kl).getD ki kv0).xs)).getD c cl0).tp), vint ((((((kl).getD ki kv0).xs)).getD c cl0).fr), vint ((((((kl).getD ki kv0).xs)).getD c cl0).to)]) (cs' := [vint ((((((kl).getD ki kv0).xs)).getD c cl0).x1), vint ((((((kl).getD ki kv0).xs)).getD c cl0).y1), vint ((((((kl).getD ki kv0).xs)).getD c cl0).x2), vint ((((((kl).getD ki kv0).xs)).getD c cl0).y2), vint ((((((kl).getD ki kv0).xs)).getD c cl0).ba), vint ((((((kl).getD ki kv0).xs)).getD c cl0).tp), vint ((((((kl).getD ki kv0).xs)).getD c cl0).fr), vint ((((((kl).getD ki kv0).xs)).getD c cl0).to)]) Tryz.sizeOf103 rfl rfl rfl rfl hb6 (Nat.le_of_ble_eq_true rfl) rfl rfl ?_)
   intro w7 hz7 hb6 hG7
   replace hsz : w.heap.size ≤ w7.heap.size := by rw [hz7]; exact hsz
   replace hJ := hJs _ _ _ hJ (below_upd_of hG7 hbs_b6 (by omega))
   refine l_nil (r_seq (r_draw ext_refl' ext_trans' [0, 1, 2, 3, 4, 5, 6, 7, 8, 9, 10, 11, 12, 13, 14, 15, 16, 17, 18, 19, 20, 21, 22, 23, 24, 25, 26, 27, 28, 29, 30, 31, 32, 33, 34] [5, 27, 32, 1032] 44 (by kernel_rfl) (by kernel_rfl) ?_))
   intro w8 _ hE8
   replace hJ := hJs _ _ _ hJ (below_ext_of hE8 hsz)
   replace hb6 := hb6.ext hE8
   replace hsz := Nat.le_trans hsz hE8.size
   refine m_q rfl rfl (fun w' hC' => q_load Tryz.isAgg3 rfl ((((hJb _ _ hJ).2.2.1.has (o := 0) rfl).ext hC')) rfl) (m_q rfl rfl (fun w' hC' => q_fieldAddr (o' := 6) rfl fld103_1 rfl) (m_q rfl rfl (fun w' hC' => q_load Tryz.isAgg3 rfl (((hb6.has (o := 6) rfl).ext hC')) rfl) (m_q rfl rfl (fun w' hC' => q_fieldAddr (o' := 7) rfl fld103_2 rfl) (m_q rfl rfl (fun w' hC' => q_load Tryz.isAgg3 rfl (((hb6.has (o := 7) rfl).ext hC')) rfl) (m_o rfl rfl (o_call Tryz.call33 rfl (hwithin_ret _ _ _ _) rfl ?_))))))
   rintro _ w9 ⟨rfl, rfl⟩
   refine ⟨Ext.refl _, ?_⟩
   refine m_q rfl rfl (fun w' hC' => qmb rfl rfl) (m_part 28 rfl (fun hc10 => ?_) (fun hc10 => ?_))
   ·
    replace hc10 := b2t hc10
    have g28 := hc10
    refine m_q rfl rfl (fun w' hC' => q_fieldAddr (o' := 0) rfl fld103_0 rfl) (m_q rfl rfl (fun w' hC' => q_load_agg (n := 6) Tryz.isAgg83 Tryz.sizeOf83 rfl (((hb6.cells' (cs' := [_, _, _, _, _, _]) 0 6 rfl).ext hC')) rfl rfl) (m_q rfl rfl (fun w' hC' => q_load Tryz.isAgg74 rfl ((((hJb _ _ hJ).1.has (o := 0) rfl).ext hC')) rfl) (m_q rfl rfl (fun w' hC' => q_nilCheck rfl rfl) (m_q rfl rfl (fun w' hC' => q_fieldAddr (o' := 0) rfl fld99_0 rfl) (m_q rfl rfl (fun w' hC' => q_fieldAddr (o' := 0) rfl fld52_0 rfl) (m_q rfl rfl (fun w' hC' => q_load Tryz.isAgg47 rfl ((((hJb _ _ hJ).2.2.2.2.blk.has (o := 0) rfl).ext hC')) rfl) (m_q rfl rfl (fun w' hC' => q_fieldAddr (o' := 0) rfl fld78_0 rfl) (m_q rfl rfl (fun w' hC' => q_load Tryz.isAgg3 rfl ((((hJb _ _ hJ).2.2.2.1.has (o := 0) rfl).ext hC')) rfl) ?_))))))))
    obtain ⟨b11, o11, ha11, hh11⟩ := (hJb _ _ hJ).2.2.2.2.lan.rs.at (by decide) i (by omega)
    refine m_q rfl rfl (fun w' hC' => q_indexAddr Tryz.underlying47 Tryz.sizeOf72 rfl ha11 rfl (by omega) rfl) (m_q rfl rfl (fun w' hC' => q_load_agg (cs := [vint (((sl).getD i s40).x), vint (((sl).getD i s40).y), vint (((sl).getD i s40).z), vint (((sl).getD i s40).m)]) (n := 4) Tryz.isAgg72 Tryz.sizeOf72 rfl (((cells_cast (wide_at S4.len s40 _ _ (by omega)) hh11).ext hC')) rfl rfl) (m_q rfl rfl (fun w' hC' => q_load Tryz.isAgg74 rfl ((((hJb _ _ hJ).1.has (o := 0) rfl).ext hC')) rfl) (m_q rfl rfl (fun w' hC' => q_nilCheck rfl rfl) (m_q rfl rfl (fun w' hC' => q_fieldAddr (o' := 0) rfl fld99_0 rfl) (m_q rfl rfl (fun w' hC' => q_fieldAddr (o' := 0) rfl fld52_0 rfl) (m_q rfl rfl (fun w' hC' => q_load Tryz.isAgg47 rfl ((((hJb _ _ hJ).2.2.2.2.blk.has (o := 0) rfl).ext hC')) rfl) (m_q rfl rfl (fun w' hC' => q_fieldAddr (o' := 1) rfl fld78_1 rfl) ?_)))))))
    refine m_q rfl rfl (fun w' hC' => q_load Tryz.isAgg3 rfl ((((hJb _ _ hJ).2.2.2.1.has (o := 1) rfl).ext hC')) rfl) ?_
    obtain ⟨b12, o12, ha12, hh12⟩ := (hJb _ _ hJ).2.2.2.2.lan.rs.at (by decide) j (by omega)
    refine m_q rfl rfl (fun w' hC' => q_indexAddr Tryz.underlying47 Tryz.sizeOf72 rfl ha12 rfl (by omega) rfl) (m_q rfl rfl (fun w' hC' => q_load_agg (cs := [vint (((sl).getD j s40).x), vint (((sl).getD j s40).y), vint (((sl).getD j s40).z), vint (((sl).getD j s40).m)]) (n := 4) Tryz.isAgg72 Tryz.sizeOf72 rfl (((cells_cast (wide_at S4.len s40 _ _ (by omega)) hh12).ext hC')) rfl rfl) (m_o rfl rfl (o_call Tryz.call108 rfl (blocks_ret ((kl.getD ki kv0).xs.getD c cl0).wl (sl.getD i s40) (sl.getD j s40) _ (okCl_wl (hok.cl ki hgk c hcX)) (hok.st i hgi) (hok.st j hgj)) rfl ?_)))
    rintro _ w13 ⟨rfl, hE13⟩
    refine ⟨hE13, ?_⟩
    replace hJ := hJs _ _ _ hJ (below_ext_of hE13 hsz)
    replace hsz := Nat.le_trans hsz hE13.size
    refine m_q rfl rfl (fun w' hC' => q_pick_t (v := .bool _) rfl rfl rfl) (m_q rfl rfl (fun w' hC' => qmb rfl rfl) (m_part 51 rfl (fun hc14 => ?_) (fun hc14 => ?_)))
    ·
     have hcl : cldB (sl.getD i s40) (sl.getD j s40) (h : Int) ((kl.getD ki kv0).xs.getD c cl0) = true := cld_yes g28 hc14
     refine m_q rfl rfl (fun w' hC' => q_move (v := .func (.yield l) ⟨[]⟩ ⟨[]⟩) rfl rfl) (m_q rfl rfl (fun w' hC' => qmi rfl rfl) (m_last rfl rfl rfl (o_yield rfl rfl (hy c _ hcX hJ (by omega) hcl) rfl ?_)))
     rintro _ w15 ⟨y54, rfl, hJy, hEy, hzy⟩
     replace hsz := Nat.le_trans hsz hzy
     refine m_q rfl rfl (fun w' hC' => q_not rfl rfl) (m_q rfl rfl (fun w' hC' => q_pick_t (v := .bool _) rfl rfl rfl) (m_nil (r_forget [(0, .func (.yield l) ⟨[]⟩ ⟨[]⟩), (1, .pointer _), (3, .pointer _), (4, .pointer _), (15, .slice _ _ _), (16, .int _ _), (17, .int _ _), (56, .bool _)] ⟨rfl, rfl, rfl, rfl, rfl, rfl, rfl, rfl, trivial⟩ (fun e16 => (r_cond rfl (fun hc17 => ?_) (fun hc17 => ?_))))))
     ·
      replace hc17 := nt hc17
      have hE2 := hEy hc17
      refine r_ret_ (vs := []) rfl Tryz.func109 rfl (.nil _) trivial ?_
      exact .inr hE2
     ·
      replace hc17 := nf hc17
      have hJn := hJy hc17
      refine r_skip (r_inBlock (r_region' (l_q (q_add rfl rfl (by omega) rfl) (l_q (qmi rfl rfl) (l_nil ?_)))))
      exact ih3 (c + 1) _ _ ⟨⟨rfl, rfl, rfl, rfl, rfl, rfl, by first | rfl | exact vint_eq (by omega), trivial⟩, (by omega), hJn, hsz⟩ (by first | omega | (dsimp only; omega))
    ·
     have hJn := hskip c _ hcX hJ (cld_no2 hc14)
     refine m_q rfl rfl (fun w' hC' => q_skip rfl) (m_q rfl rfl (fun w' hC' => q_skip rfl) (m_o rfl rfl ((q_skip rfl).eff ⟨Ext.refl _, ?_⟩)))
     refine m_q rfl rfl (fun w' hC' => q_skip rfl) (m_q rfl rfl (fun w' hC' => q_pick_f (v := .bool _) rfl rfl rfl) (m_nil (r_forget [(0, .func (.yield l) ⟨[]⟩ ⟨[]⟩), (1, .pointer _), (3, .pointer _), (4, .pointer _), (15, .slice _ _ _), (16, .int _ _), (17, .int _ _), (56, .bool _)] ⟨rfl, rfl, rfl, rfl, rfl, rfl, rfl, rfl, trivial⟩ (fun e18 => (r_cond_f rfl (r_skip (r_inBlock (r_region' (l_q (q_add rfl rfl (by omega) rfl) (l_q (qmi rfl rfl) (l_nil ?_)))))))))))
     exact ih3 (c + 1) _ _ ⟨⟨rfl, rfl, rfl, rfl, rfl, rfl, by first | rfl | exact vint_eq (by omega), trivial⟩, (by omega), hJn, hsz⟩ (by first | omega | (dsimp only; omega))
   ·
    replace hc10 := b2f hc10
    have hJn := hskip c _ hcX hJ (cld_no1 (by omega))
    refine m_q rfl rfl (fun w' hC' => q_skip rfl) (m_q rfl rfl (fun w' hC' => q_skip rfl) (m_q rfl rfl (fun w' hC' => q_skip rfl) (m_q rfl rfl (fun w' hC' => q_skip rfl) (m_q rfl rfl (fun w' hC' => q_skip rfl) (m_q rfl rfl (fun w' hC' => q_skip rfl) (m_q rfl rfl (fun w' hC' => q_skip rfl) (m_q rfl rfl (fun w' hC' => q_skip rfl) (m_q rfl rfl (fun w' hC' => q_skip rfl) (m_q rfl rfl (fun w' hC' => q_skip rfl) (m_q rfl rfl (fun w' hC' => q_skip rfl) (m_q rfl rfl (fun w' hC' => q_skip rfl) (m_q rfl rfl (fun w' hC' => q_skip rfl) (m_q rfl rfl (fun w' hC' => q_skip rfl) (m_q rfl rfl (fun w' hC' => q_skip rfl) (m_q rfl rfl (fun w' hC' => q_skip rfl) (m_q rfl rfl (fun w' hC' => q_skip rfl) (m_q rfl rfl (fun w' hC' => q_skip rfl) (m_q rfl rfl (fun w' hC' => q_skip rfl) (m_q rfl rfl (fun w' hC' => q_skip rfl) (m_o rfl rfl ((q_skip rfl).eff ⟨Ext.refl _, ?_⟩)))))))))))))))))))))
    refine m_q rfl rfl (fun w' hC' => q_pick_f (v := .bool _) rfl rfl rfl) (m_q rfl rfl (fun w' hC' => qmb rfl rfl) (m_q rfl rfl (fun w' hC' => q_skip rfl) (m_q rfl rfl (fun w' hC' => q_skip rfl) (m_o rfl rfl ((q_skip rfl).eff ⟨Ext.refl _, ?_⟩)))))
    refine m_q rfl rfl (fun w' hC' => q_skip rfl) (m_q rfl rfl (fun w' hC' => q_pick_f (v := .bool _) rfl rfl rfl) (m_nil (r_forget [(0, .func (.yield l) ⟨[]⟩ ⟨[]⟩), (1, .pointer _), (3, .pointer _), (4, .pointer _), (15, .slice _ _ _), (16, .int _ _), (17, .int _ _), (56, .bool _)] ⟨rfl, rfl, rfl, rfl, rfl, rfl, rfl, rfl, trivial⟩ (fun e19 => (r_cond_f rfl (r_skip (r_inBlock (r_region' (l_q (q_add rfl rfl (by omega) rfl) (l_q (qmi rfl rfl) (l_nil ?_)))))))))))
    exact ih3 (c + 1) _ _ ⟨⟨rfl, rfl, rfl, rfl, rfl, rfl, by first | rfl | exact vint_eq (by omega), trivial⟩, (by omega), hJn, hsz⟩ (by first | omega | (dsimp only; omega))
  ·
   replace hc4 := dlt hc4
   refine r_exit rfl (r_end_ (vs := []) rfl Tryz.func109 rfl (.nil _) trivial ?_)
   have hkk : c = (kl.getD ki kv0).xs.length := by omega
   subst hkk
   exact .inl hJ
set_option maxHeartbeats 1000000 in
theorem why_ret (sa : Option Addr) (sc : Nat) (sl : List S4) (ra : Option Addr) (rc : Nat) (rl : List WL) (ka : Option Addr) (kc : Nat) (kl : List KV) (ua : Option Addr) (uc : Nat) (ul : List S3) (wb m : Nat) (clock : Nat) (es : List MapEntry) (i j ki h : Nat) (w : World) (hok : OkL sl rl kl ul) (hk : HwH w sa sc sl ra rc rl ka kc kl ua uc ul wb m) (hM : MapAt w m es clock) (hMemo : MemoR w sl rl es) (hgi : i < sl.length) (hgj : j < sl.length) (hgk : ki < kl.length) (hgh : h < ul.length) : Ret Tryz.prog 34 [ptr wb 0, .agg ⟨[vint (i : Int), vint (j : Int)]⟩, vint (ki : Int), vint (h : Int)] w (fun v w' => ∃ x, v = .tuple ⟨[.int .u8 (whyF sl rl kl ul i j ki h), vint x]⟩ ∧ ∃ es2 ck2, MapAt w' m es2 ck2 ∧ MemoR w' sl rl es2 ∧ w.grownBy w' (some m) ∧ (∀ p, p < w.heap.size → Away p es → Away p es2)) := by
 have hs6 := hok.s6
 have hr6 := hok.r6
 have hk4 := hok.k4
 have hu12 := hok.u12
 have hs0 := hok.s0
 have hk0 := hok.k0
 have hu0 := hok.u0
 have hwbl := hk.blk.lt
 have hM0 := hM
 have hMemo0 := hMemo
 have hG0 := gm_refl m w
 have hmN := hM.lt
 have hsz : w.heap.size ≤ w.heap.size := Nat.le_refl _
 refine ret_of_runs (args := [_, _, _, _]) Tryz.func34 rfl (Nat.le_of_ble_eq_true rfl) (by kernel_rfl) (r_seq (r_region' (l_o (o_box rfl rfl rfl ?_))))
 intro b1 w1 hzl1 hzr1 _ hb1 hE1
 have hne_wb_b1 : wb ≠ b1 := by have := hk.blk.lt; omega
 have hbs_b1 : w.heap.size ≤ b1 := Nat.le_trans hsz hzl1
 replace hM := hM.keep (hE1.block m hM.lt (by simp))
 replace hMemo := hMemo.ext hE1
 replace hG0 := grown_trans hG0 (gm_ext hE1)
 replace hsz := Nat.le_trans hsz hE1.size
 refine l_o (o_alloc Tryz.zeroValue5 rfl rfl ?_)
 intro b2 w2 hzl2 hzr2 _ hb2 hE2
 have hne_wb_b2 : wb ≠ b2 := by have := hk.blk.lt; omega
 have hne_b1_b2 : b1 ≠ b2 := by have := hb1.lt; omega
 have hbs_b2 : w.heap.size ≤ b2 := Nat.le_trans hsz hzl2
 replace hM := hM.keep (hE2.block m hM.lt (by simp))
 replace hMemo := hMemo.ext hE2
 replace hG0 := grown_trans hG0 (gm_ext hE2)
 replace hb1 := hb1.ext hE2
 replace hsz := Nat.le_trans hsz hE2.size
 refine l_o (o_alloc Tryz.zeroValue3 rfl rfl ?_)
 intro b3 w3 hzl3 hzr3 _ hb3 hE3
 have hne_wb_b3 : wb ≠ b3 := by have := hk.blk.lt; omega
 have hne_b1_b3 : b1 ≠ b3 := by have := hb1.lt; omega
 have hne_b2_b3 : b2 ≠ b3 := by have := hb2.lt; omega
 have hbs_b3 : w.heap.size ≤ b3 := Nat.le_trans hsz hzl3
 replace hM := hM.keep (hE3.block m hM.lt (by simp))
 replace hMemo := hMemo.ext hE3
 replace hG0 := grown_trans hG0 (gm_ext hE3)
 replace hb1 := hb1.ext hE3
 replace hb2 := hb2.ext hE3
 replace hsz := Nat.le_trans hsz hE3.size
 refine l_nil (r_seq (r_block (r_seq ?_)))
 have hA8 := away_new hMemo0 hbs_b2
 have hA9 := away_new hMemo0 hbs_b3
 have hMemo5 := hMemo
 have hM5 := hM
 have hF5 := Kp.refl b2 b3 w3
 have hsz5 : w3.heap.size ≤ w3.heap.size := Nat.le_refl _
 refine r_region' (l_q (q_move (v := .pointer _) rfl rfl) (l_q (q_nilCheck rfl rfl) (l_q (q_fieldAddr (o' := 0) rfl fld99_0 rfl) (l_q (q_fieldAddr (o' := 3) rfl fld52_3 rfl) (l_q (q_load Tryz.isAgg50 rfl (((hk.blk.gm hM0 hG0).has (o := 3) rfl)) rfl) (l_q (qmi rfl rfl) ?_))))))
 obtain ⟨b4, o4, ha4, hh4⟩ := (hk.lan.ru.gm hM0 hG0).at (by decide) h (by omega)
 refine l_q (q_indexAddr Tryz.underlying50 Tryz.sizeOf73 rfl ha4 rfl (by omega) rfl) (l_q (q_fieldAddr (o' := 2) rfl fld73_2 rfl) (l_q (q_load Tryz.isAgg3 rfl (((cells_cast (wide_at S3.len s30 _ _ (by omega)) hh4) 2 _ rfl)) rfl) (l_q (q_leq rfl rfl rfl) (l_q (qab rfl rfl) (l_nil (r_forget [(0, .pointer _), (2, .int _ _), (3, .int _ _), (5, .pointer _), (8, .pointer _), (9, .pointer _), (12, .bool _)] ⟨rfl, rfl, rfl, rfl, rfl, rfl, rfl, trivial⟩ (fun e5 => (r_cond rfl (fun hc6 => ?_) (fun hc6 => ?_)))))))))
 ·
  replace hc6 := dt hc6
  have g12 := hc6
  refine r_seq (r_region' (l_o (o_store (vs := [.int .u8 1]) (cs' := [.int .u8 1]) Tryz.sizeOf5 rfl rfl rfl rfl hb2 (Nat.le_of_ble_eq_true rfl) rfl rfl ?_)))
  intro w7 hz7 hb2 hG7
  replace hsz : w.heap.size ≤ w7.heap.size := by rw [hz7]; exact hsz
  replace hM := hM.keep (hG7.block m hM.lt (by simp; omega))
  replace hG0 := gm_upd hG0 hG7 (by omega)
  replace hb1 := hb1.upd hG7 (by omega)
  replace hb3 := hb3.upd hG7 (by omega)
  replace hF5 := hF5.upd hG7 (by omega)
  replace hsz5 := Nat.le_trans hsz5 hG7.size
  refine l_o (o_store (vs := [vint 0]) (cs' := [vint 0]) Tryz.sizeOf3 rfl rfl rfl rfl hb3 (Nat.le_of_ble_eq_true rfl) rfl rfl ?_)
  intro w8 hz8 hb3 hG8
  replace hsz : w.heap.size ≤ w8.heap.size := by rw [hz8]; exact hsz
  replace hM := hM.keep (hG8.block m hM.lt (by simp; omega))
  replace hG0 := gm_upd hG0 hG8 (by omega)
  replace hb1 := hb1.upd hG8 (by omega)
  replace hb2 := hb2.upd hG8 (by omega)
  replace hF5 := hF5.upd hG8 (by omega)
  replace hsz5 := Nat.le_trans hsz5 hG8.size
  refine l_nil (r_ret_ (vs := [.int _ _, .int _ _]) rfl Tryz.func34 rfl (.nil _) ⟨⟨_, _, rfl, run_loadVar1 Tryz.isAgg5 (hb2.has (o := 0) rfl)⟩, ⟨_, _, rfl, run_loadVar1 Tryz.isAgg3 (hb3.has (o := 0) rfl)⟩, trivial⟩ ?_)
  exact ⟨0, (by rw [why_1 g12]; rfl), _, _, hM5.kp hF5 (by omega) (by omega), hMemo5.kp hF5 hA8 hA9, hG0, fun p hp ha => ha⟩
 ·
  replace hc6 := dle hc6
  have g12 := hc6
  refine r_seq (r_draw ext_refl' ext_trans' [0, 1, 2, 4, 5, 6, 7, 8, 9, 10, 11, 12, 13, 3, 14, 15] [3] 24 (by kernel_rfl) (by kernel_rfl) ?_)
  intro w9 _ hE9
  replace hM := hM.keep (hE9.block m hM.lt (by simp))
  replace hMemo := hMemo.ext hE9
  replace hG0 := grown_trans hG0 (gm_ext hE9)
  replace hb1 := hb1.ext hE9
  replace hb2 := hb2.ext hE9
  replace hb3 := hb3.ext hE9
  replace hF5 := hF5.ext hE9
  replace hsz5 := Nat.le_trans hsz5 hE9.size
  replace hsz := Nat.le_trans hsz hE9.size
  refine m_q rfl rfl (fun w' hC' => q_move (v := .pointer _) rfl rfl) (m_q rfl rfl (fun w' hC' => q_load_agg (n := 2) Tryz.isAgg78 Tryz.sizeOf78 rfl (((hb1.cells' (cs' := [_, _]) 0 2 rfl).ext hC')) rfl rfl) (m_q rfl rfl (fun w' hC' => qmi rfl rfl) (m_q rfl rfl (fun w' hC' => q_move (v := .pointer _) rfl rfl) (m_q rfl rfl (fun w' hC' => q_nilCheck rfl rfl) (m_q rfl rfl (fun w' hC' => q_fieldAddr (o' := 0) rfl fld99_0 rfl) (m_q rfl rfl (fun w' hC' => q_fieldAddr (o' := 0) rfl fld52_0 rfl) (m_q rfl rfl (fun w' hC' => q_load Tryz.isAgg47 rfl ((((hk.blk.gm hM0 hG0).has (o := 0) rfl).ext hC')) rfl) (m_q rfl rfl (fun w' hC' => q_fieldAddr (o' := 0) rfl fld78_0 rfl) (m_q rfl rfl (fun w' hC' => q_load Tryz.isAgg3 rfl (((hb1.has (o := 0) rfl).ext hC')) rfl) ?_)))))))))
  obtain ⟨b10, o10, ha10, hh10⟩ := (hk.lan.rs.gm hM0 hG0).at (by decide) i (by omega)
  refine m_q rfl rfl (fun w' hC' => q_indexAddr Tryz.underlying47 Tryz.sizeOf72 rfl ha10 rfl (by omega) rfl) (m_q rfl rfl (fun w' hC' => q_fieldAddr (o' := 3) rfl fld72_3 rfl) (m_q rfl rfl (fun w' hC' => q_load Tryz.isAgg3 rfl ((((cells_cast (wide_at S4.len s40 _ _ (by omega)) hh10) 3 _ rfl).ext hC')) rfl) (m_o rfl rfl (o_call Tryz.call69 rfl (mirrors_ret sa sc sl ra rc rl ka kc kl ua uc ul wb m i j h _ hok (hk.gm hM0 hG0) hgi hgj hgh) rfl ?_))))
  rintro _ w11 ⟨rfl, hE11⟩
  refine ⟨hE11, ?_⟩
  replace hM := hM.keep (hE11.block m hM.lt (by simp))
  replace hMemo := hMemo.ext hE11
  replace hG0 := grown_trans hG0 (gm_ext hE11)
  replace hb1 := hb1.ext hE11
  replace hb2 := hb2.ext hE11
  replace hb3 := hb3.ext hE11
  replace hF5 := hF5.ext hE11
  replace hsz5 := Nat.le_trans hsz5 hE11.size
  replace hsz := Nat.le_trans hsz hE11.size
  refine m_q rfl rfl (fun w' hC' => q_gtr rfl rfl rfl) (m_q rfl rfl (fun w' hC' => qab rfl rfl) (m_nil (r_forget [(0, .pointer _), (2, .int _ _), (3, .int _ _), (5, .pointer _), (8, .pointer _), (9, .pointer _), (23, .bool _)] ⟨rfl, rfl, rfl, rfl, rfl, rfl, rfl, trivial⟩ (fun e12 => (r_cond rfl (fun hc13 => ?_) (fun hc13 => ?_))))))
  ·
   replace hc13 := dt hc13
   have g23 := hc13
   refine r_seq (r_region' (l_o (o_store (vs := [.int .u8 2]) (cs' := [.int .u8 2]) Tryz.sizeOf5 rfl rfl rfl rfl hb2 (Nat.le_of_ble_eq_true rfl) rfl rfl ?_)))
   intro w14 hz14 hb2 hG14
   replace hsz : w.heap.size ≤ w14.heap.size := by rw [hz14]; exact hsz
   replace hM := hM.keep (hG14.block m hM.lt (by simp; omega))
   replace hG0 := gm_upd hG0 hG14 (by omega)
   replace hb1 := hb1.upd hG14 (by omega)
   replace hb3 := hb3.upd hG14 (by omega)
   replace hF5 := hF5.upd hG14 (by omega)
   replace hsz5 := Nat.le_trans hsz5 hG14.size
   refine l_o (o_store (vs := [vint 0]) (cs' := [vint 0]) Tryz.sizeOf3 rfl rfl rfl rfl hb3 (Nat.le_of_ble_eq_true rfl) rfl rfl ?_)
   intro w15 hz15 hb3 hG15
   replace hsz : w.heap.size ≤ w15.heap.size := by rw [hz15]; exact hsz
   replace hM := hM.keep (hG15.block m hM.lt (by simp; omega))
   replace hG0 := gm_upd hG0 hG15 (by omega)
   replace hb1 := hb1.upd hG15 (by omega)
   replace hb2 := hb2.upd hG15 (by omega)
   replace hF5 := hF5.upd hG15 (by omega)
   replace hsz5 := Nat.le_trans hsz5 hG15.size
   refine l_nil (r_ret_ (vs := [.int _ _, .int _ _]) rfl Tryz.func34 rfl (.nil _) ⟨⟨_, _, rfl, run_loadVar1 Tryz.isAgg5 (hb2.has (o := 0) rfl)⟩, ⟨_, _, rfl, run_loadVar1 Tryz.isAgg3 (hb3.has (o := 0) rfl)⟩, trivial⟩ ?_)
   exact ⟨0, (by rw [why_2 g12 g23]; rfl), _, _, hM5.kp hF5 (by omega) (by omega), hMemo5.kp hF5 hA8 hA9, hG0, fun p hp ha => ha⟩
  ·
   replace hc13 := dlt hc13
   have g23 := hc13
   refine r_skip (r_inBlock (r_seq (r_seq ?_)))
   have hl8 := hb2.lt
   have hl9 := hb3.lt
   refine r_region' (l_q (q_move (v := .pointer _) rfl rfl) (l_q (q_load_agg (n := 2) Tryz.isAgg78 Tryz.sizeOf78 rfl ((hb1.cells' (cs' := [_, _]) 0 2 rfl)) rfl rfl) (l_o (o_call Tryz.call70 rfl (ridges_ret sa sc sl ra rc rl ka kc kl ua uc ul wb m clock es i j _ hok (hk.gm hM0 hG0) hM hMemo hgi hgj) rfl ?_))))
   rintro _ w16 ⟨la, lc, xr, rfl, hRr, hRd, esc16, ckc16, hMc16, hMm16, hGc16, hAw16⟩
   replace hsz : w.heap.size ≤ w16.heap.size := Nat.le_trans hsz hGc16.size
   replace hG0 := gm_upd hG0 hGc16 (by omega)
   replace hb1 := hb1.upd hGc16 (by omega)
   replace hb2 := hb2.upd hGc16 (by omega)
   replace hb3 := hb3.upd hGc16 (by omega)
   have hM5 := hMc16
   have hMemo5 := hMm16
   obtain ⟨hA8, hS8⟩ := hAw16 b2 hl8 hA8
   obtain ⟨hA9, hS9⟩ := hAw16 b3 hl9 hA9
   have hwM := hAw16
   have hF5 := Kp.refl b2 b3 w16
   have hsz5 : w16.heap.size ≤ w16.heap.size := Nat.le_refl _
   refine l_q (qas rfl rfl) (l_nil (r_seq (r_region' (l_q (qms rfl rfl) (l_q (q_len rfl Tryz.underlying31 rfl rfl) (l_q (q_gtr rfl rfl rfl) (l_nil (r_cond rfl (fun hc17 => ?_) (fun hc17 => ?_)))))))))
   ·
    replace hc17 := dt hc17
    have g44 : rdgF sl rl i j = true := by rw [← hRd]; exact decide_eq_true (by omega)
    refine r_seq (r_draw (Cls := fun u1 u2 => Row u1 la xr.length lc 1 (xr.map vint) → Row u2 la xr.length lc 1 (xr.map vint)) (fun u h => h) (fun a b c h1 h2 h => h2 (h1 h)) [0, 1, 2, 3, 4] [3, 4, 1004] 9 (by kernel_rfl) (by kernel_rfl) ?_)
    intro w18 _ hE18
    replace hG0 := grown_trans hG0 (gm_ext hE18)
    replace hb1 := hb1.ext hE18
    replace hb2 := hb2.ext hE18
    replace hb3 := hb3.ext hE18
    replace hF5 := hF5.ext hE18
    replace hsz5 := Nat.le_trans hsz5 hE18.size
    replace hRr := hRr.ext hE18
    replace hsz := Nat.le_trans hsz hE18.size
    refine m_q rfl rfl (fun w' hC' => qms rfl rfl) ?_
    obtain ⟨b19, o19, ha19, hh19⟩ := hRr.at1 0 ((xr).getD 0 0) (getD_some (by omega))
    refine m_q rfl rfl (fun w' hC' => q_indexAddr1 Tryz.underlying31 Tryz.sizeOf3 rfl ha19 rfl (by omega) rfl) (m_q rfl rfl (fun w' hC' => q_load Tryz.isAgg3 rfl ((at1_same (hC' hRr) (x := (xr).getD 0 0) (getD_some (by omega)) ha19)) rfl) (m_o rfl rfl (o_store (vs := [.int .u8 3]) (cs' := [.int .u8 3]) Tryz.sizeOf5 rfl rfl rfl rfl hb2 (Nat.le_of_ble_eq_true rfl) rfl rfl ?_)))
    intro w20 hz20 hb2 hG20
    refine ⟨(fun h => row_upd1 h hG20 hS8), ?_⟩
    replace hsz : w.heap.size ≤ w20.heap.size := by rw [hz20]; exact hsz
    replace hG0 := gm_upd hG0 hG20 (by omega)
    replace hb1 := hb1.upd hG20 (by omega)
    replace hb3 := hb3.upd hG20 (by omega)
    replace hF5 := hF5.upd hG20 (by omega)
    replace hsz5 := Nat.le_trans hsz5 hG20.size
    refine m_last rfl rfl rfl (o_store (vs := [vint ((xr).getD 0 0)]) (cs' := [vint ((xr).getD 0 0)]) Tryz.sizeOf3 rfl rfl rfl rfl hb3 (Nat.le_of_ble_eq_true rfl) rfl rfl ?_)
    intro w21 hz21 hb3 hG21
    replace hsz : w.heap.size ≤ w21.heap.size := by rw [hz21]; exact hsz
    replace hG0 := gm_upd hG0 hG21 (by omega)
    replace hb1 := hb1.upd hG21 (by omega)
    replace hb2 := hb2.upd hG21 (by omega)
    replace hF5 := hF5.upd hG21 (by omega)
    replace hsz5 := Nat.le_trans hsz5 hG21.size
    refine m_nil (r_forget [(8, .pointer _), (9, .pointer _)] ⟨rfl, rfl, trivial⟩ (fun e22 => (r_ret_ (vs := [.int _ _, .int _ _]) rfl Tryz.func34 rfl (.nil _) ⟨⟨_, _, rfl, run_loadVar1 Tryz.isAgg5 (hb2.has (o := 0) rfl)⟩, ⟨_, _, rfl, run_loadVar1 Tryz.isAgg3 (hb3.has (o := 0) rfl)⟩, trivial⟩ ?_)))
    exact ⟨(xr).getD 0 0, (by rw [why_3 g12 g23 g44]; rfl), _, _, hM5.kp hF5 (by omega) (by omega), hMemo5.kp hF5 hA8 hA9, hG0, fun p hp ha => (hwM p (by omega) ha).1⟩
   ·
    replace hc17 := dlt hc17
    have g44 : rdgF sl rl i j = false := by rw [← hRd]; exact decide_eq_false (by omega)
    refine r_skip (r_seq (r_seq (r_region' (l_q (q_move (v := .pointer _) rfl rfl) (l_q (q_load_agg (n := 2) Tryz.isAgg78 Tryz.sizeOf78 rfl ((hb1.cells' (cs' := [_, _]) 0 2 rfl)) rfl rfl) (l_q (qmi rfl rfl) (l_q (qmi rfl rfl) (l_o (o_call Tryz.call71 rfl (hclouds_ret wb i j ki h _) rfl ?_)))))))))
    rintro _ w23 ⟨bx1, bx2, bx3, bx4, rfl, hbx1, hbx2, hbx3, hbx4, hx1, hx2, hx3, hx4, hEcl⟩
    have hne_b1_bx1 : b1 ≠ bx1 := by have := hb1.lt; omega
    have hne_b2_bx1 : b2 ≠ bx1 := by have := hb2.lt; omega
    have hne_b3_bx1 : b3 ≠ bx1 := by have := hb3.lt; omega
    have hbs_bx1 : w.heap.size ≤ bx1 := Nat.le_trans hsz hbx1
    have hne_b1_bx2 : b1 ≠ bx2 := by have := hb1.lt; omega
    have hne_b2_bx2 : b2 ≠ bx2 := by have := hb2.lt; omega
    have hne_b3_bx2 : b3 ≠ bx2 := by have := hb3.lt; omega
    have hbs_bx2 : w.heap.size ≤ bx2 := Nat.le_trans hsz hbx2
    have hne_b1_bx3 : b1 ≠ bx3 := by have := hb1.lt; omega
    have hne_b2_bx3 : b2 ≠ bx3 := by have := hb2.lt; omega
    have hne_b3_bx3 : b3 ≠ bx3 := by have := hb3.lt; omega
    have hbs_bx3 : w.heap.size ≤ bx3 := Nat.le_trans hsz hbx3
    have hne_b1_bx4 : b1 ≠ bx4 := by have := hb1.lt; omega
    have hne_b2_bx4 : b2 ≠ bx4 := by have := hb2.lt; omega
    have hne_b3_bx4 : b3 ≠ bx4 := by have := hb3.lt; omega
    have hbs_bx4 : w.heap.size ≤ bx4 := Nat.le_trans hsz hbx4
    replace hG0 := grown_trans hG0 (gm_ext hEcl)
    replace hb1 := hb1.ext hEcl
    replace hb2 := hb2.ext hEcl
    replace hb3 := hb3.ext hEcl
    replace hF5 := hF5.ext hEcl
    replace hsz5 := Nat.le_trans hsz5 hEcl.size
    replace hsz := Nat.le_trans hsz hEcl.size
    refine l_nil (r_forget [(8, .pointer _), (9, .pointer _), (52, .func _ _ _)] ⟨rfl, rfl, rfl, trivial⟩ (fun e24 => (r_block (r_rangeFunc' (fst := []) (cap := [_, _, _, _]) rfl rfl Tryz.call109 ?_))))
    intro l db wl Lp hLp hLk hEl hll hldb hlne hdbN hlN hdb hlp
    have hlt_b1 := hb1.lt
    have hlt_b2 := hb2.lt
    have hlt_b3 := hb3.lt
    have hlt_bx1 := hx1.lt
    have hlt_bx2 := hx2.lt
    have hlt_bx3 := hx3.lt
    have hlt_bx4 := hx4.lt
    have hszl := hEl.size
    replace hG0 := grown_trans hG0 (gm_ext hEl)
    replace hb1 := hb1.ext hEl
    replace hb2 := hb2.ext hEl
    replace hb3 := hb3.ext hEl
    replace hF5 := hF5.ext hEl
    replace hsz5 := Nat.le_trans hsz5 hEl.size
    replace hx1 := hx1.ext hEl
    replace hx2 := hx2.ext hEl
    replace hx3 := hx3.ext hEl
    replace hx4 := hx4.ext hEl
    replace hsz := Nat.le_trans hsz hEl.size
    have hbs_l : w.heap.size ≤ l := by omega
    have hbs_db : w.heap.size ≤ db := by omega
    have hJ0 : (fun (k : Nat) wq => (w.grownBy wq (some m)) ∧ (Blk wq b1 [vint (i : Int), vint (j : Int)]) ∧ (Blk wq b2 [.int .u8 0]) ∧ (Blk wq b3 [vint 0]) ∧ (Kp b2 b3 w16 wq) ∧ (w16.heap.size ≤ wq.heap.size) ∧ (Blk wq bx1 [ptr wb 0]) ∧ (Blk wq bx2 [vint (ki : Int)]) ∧ (Blk wq bx3 [vint (h : Int)]) ∧ (Blk wq bx4 [vint (i : Int), vint (j : Int)]) ∧ (Lp wq .ready none) ∧ (wq.heap[db]? = some (.deferred (some []))) ∧ (∀ q, q < k → cldB (sl.getD i s40) (sl.getD j s40) (h : Int) ((kl.getD ki kv0).xs.getD q cl0) = false)) 0 wl := ⟨hG0, hb1, hb2, hb3, hF5, hsz5, hx1, hx2, hx3, hx4, hlp, hdb, (fun q hq => absurd hq (Nat.not_lt_zero _))⟩
    have hJs : ∀ k w1 w2, (fun (k : Nat) wq => (w.grownBy wq (some m)) ∧ (Blk wq b1 [vint (i : Int), vint (j : Int)]) ∧ (Blk wq b2 [.int .u8 0]) ∧ (Blk wq b3 [vint 0]) ∧ (Kp b2 b3 w16 wq) ∧ (w16.heap.size ≤ wq.heap.size) ∧ (Blk wq bx1 [ptr wb 0]) ∧ (Blk wq bx2 [vint (ki : Int)]) ∧ (Blk wq bx3 [vint (h : Int)]) ∧ (Blk wq bx4 [vint (i : Int), vint (j : Int)]) ∧ (Lp wq .ready none) ∧ (wq.heap[db]? = some (.deferred (some []))) ∧ (∀ q, q < k → cldB (sl.getD i s40) (sl.getD j s40) (h : Int) ((kl.getD ki kv0).xs.getD q cl0) = false)) k w1 → Below wl.heap.size w1 w2 → (fun (k : Nat) wq => (w.grownBy wq (some m)) ∧ (Blk wq b1 [vint (i : Int), vint (j : Int)]) ∧ (Blk wq b2 [.int .u8 0]) ∧ (Blk wq b3 [vint 0]) ∧ (Kp b2 b3 w16 wq) ∧ (w16.heap.size ≤ wq.heap.size) ∧ (Blk wq bx1 [ptr wb 0]) ∧ (Blk wq bx2 [vint (ki : Int)]) ∧ (Blk wq bx3 [vint (h : Int)]) ∧ (Blk wq bx4 [vint (i : Int), vint (j : Int)]) ∧ (Lp wq .ready none) ∧ (wq.heap[db]? = some (.deferred (some []))) ∧ (∀ q, q < k → cldB (sl.getD i s40) (sl.getD j s40) (h : Int) ((kl.getD ki kv0).xs.getD q cl0) = false)) k w2 := fun k w1 w2 hJ hB2 => by
      obtain ⟨q0, q1, q2, q3, q4, q5, q6, q7, q8, q9, q10, q11, q12⟩ := hJ
      exact ⟨(gm_below q0 hB2 (by omega)), (q1.keep (hB2.block _ (by omega))), (q2.keep (hB2.block _ (by omega))), (q3.keep (hB2.block _ (by omega))), (q4.below hB2 (by omega)), (Nat.le_trans q5 hB2.size), (q6.keep (hB2.block _ (by omega))), (q7.keep (hB2.block _ (by omega))), (q8.keep (hB2.block _ (by omega))), (q9.keep (hB2.block _ (by omega))), (hLk _ _ _ _ q10 (hB2.block l hlN)), ((hB2.block db hdbN).trans q11), q12⟩
    refine (hclouds1_ret l bx1 bx2 bx3 bx4 sa sc sl ra rc rl ka kc kl ua uc ul wb m i j ki h (fun (k : Nat) wq => (w.grownBy wq (some m)) ∧ (Blk wq b1 [vint (i : Int), vint (j : Int)]) ∧ (Blk wq b2 [.int .u8 0]) ∧ (Blk wq b3 [vint 0]) ∧ (Kp b2 b3 w16 wq) ∧ (w16.heap.size ≤ wq.heap.size) ∧ (Blk wq bx1 [ptr wb 0]) ∧ (Blk wq bx2 [vint (ki : Int)]) ∧ (Blk wq bx3 [vint (h : Int)]) ∧ (Blk wq bx4 [vint (i : Int), vint (j : Int)]) ∧ (Lp wq .ready none) ∧ (wq.heap[db]? = some (.deferred (some []))) ∧ (∀ q, q < k → cldB (sl.getD i s40) (sl.getD j s40) (h : Int) ((kl.getD ki kv0).xs.getD q cl0) = false)) (fun wq => ∃ (c : Nat), (Lp wq .done (some (.ret))) ∧ (wq.heap[db]? = some (.deferred (some []))) ∧ (Blk wq b2 [.int .u8 4]) ∧ (Blk wq b3 [vint (c : Int)]) ∧ (Kp b2 b3 w16 wq) ∧ (w16.heap.size ≤ wq.heap.size) ∧ (w.grownBy wq (some m)) ∧ (c < (kl.getD ki kv0).xs.length ∧ cldB (sl.getD i s40) (sl.getD j s40) (h : Int) ((kl.getD ki kv0).xs.getD c cl0) = true)) wl hok hgi hgj hgk hgh hJ0 (fun c w1 hJ => by
        obtain ⟨hG0, hb1, hb2, hb3, hF5, hsz5, hx1, hx2, hx3, hx4, hlp, hdb, hno⟩ := hJ
        exact ⟨hx1, hx2, hx3, hx4, hk.gm hM0 hG0⟩) hJs (fun c w1 hcX hJ hnn => by
        obtain ⟨hG0, hb1, hb2, hb3, hF5, hsz5, hx1, hx2, hx3, hx4, hlp, hdb, hno⟩ := hJ
        exact ⟨hG0, hb1, hb2, hb3, hF5, hsz5, hx1, hx2, hx3, hx4, hlp, hdb, (fun q hq => by rcases Nat.lt_succ_iff_lt_or_eq.1 hq with h | h; exact hno q h; subst h; exact hnn)⟩) ?_).mono ?_
    · intro k w1 hcX hJ hN hcl
      obtain ⟨hG0, hb1, hb2, hb3, hF5, hsz5, hx1, hx2, hx3, hx4, hlp, hdb, hno⟩ := hJ
      refine yieldAt_of ((hLp _ _ _).1 hlp) rfl (by rfl) (by kernel_rfl) ?_
      have hsz : w.heap.size ≤ w1.heap.size := by omega
      have hszr : w1.heap.size ≤ w1.heap.size := Nat.le_refl _
      refine r_forget [(8, ptr b2 0), (9, ptr b3 0), (53, vint (k : Int))] ⟨rfl, rfl, rfl, trivial⟩ (fun e25 => (r_region' (l_q (qai rfl rfl) (l_nil (r_begin rfl ((hLp _ _ _).1 hlp) ?_)))))
      intro wb26 hzb26 hgb26 hl26
      replace hsz : w.heap.size ≤ wb26.heap.size := by rw [hzb26]; exact hsz
      replace hG0 := gm_upd hG0 hgb26 (by omega)
      replace hb1 := hb1.upd hgb26 (by omega)
      replace hb2 := hb2.upd hgb26 (by omega)
      replace hb3 := hb3.upd hgb26 (by omega)
      replace hF5 := hF5.upd hgb26 (by omega)
      replace hsz5 := Nat.le_trans hsz5 hgb26.size
      replace hx1 := hx1.upd hgb26 (by omega)
      replace hx2 := hx2.upd hgb26 (by omega)
      replace hx3 := hx3.upd hgb26 (by omega)
      replace hx4 := hx4.upd hgb26 (by omega)
      replace hdb := (hgb26.block db (heap_lt hdb) (by simp; omega)).trans hdb
      replace hszr := Nat.le_trans hszr hgb26.size
      have hlp := (hLp _ _ _).2 hl26
      refine r_block (r_seq (r_region' (l_q (qmi rfl rfl) (l_o (o_store (vs := [.int .u8 4]) (cs' := [.int .u8 4]) Tryz.sizeOf5 rfl rfl rfl rfl hb2 (Nat.le_of_ble_eq_true rfl) rfl rfl ?_)))))
      intro w27 hz27 hb2 hG27
      replace hsz : w.heap.size ≤ w27.heap.size := by rw [hz27]; exact hsz
      replace hG0 := gm_upd hG0 hG27 (by omega)
      replace hb1 := hb1.upd hG27 (by omega)
      replace hb3 := hb3.upd hG27 (by omega)
      replace hF5 := hF5.upd hG27 (by omega)
      replace hsz5 := Nat.le_trans hsz5 hG27.size
      replace hx1 := hx1.upd hG27 (by omega)
      replace hx2 := hx2.upd hG27 (by omega)
      replace hx3 := hx3.upd hG27 (by omega)
      replace hx4 := hx4.upd hG27 (by omega)
      replace hdb := (hG27.block db (heap_lt hdb) (by simp; omega)).trans hdb
      replace hszr := Nat.le_trans hszr hG27.size
      replace hlp := hLk _ _ _ _ hlp (hG27.block l (((hLp _ _ _).1 hlp).lt) (by simp; omega))
      refine l_o (o_store (vs := [vint (k : Int)]) (cs' := [vint (k : Int)]) Tryz.sizeOf3 rfl rfl rfl rfl hb3 (Nat.le_of_ble_eq_true rfl) rfl rfl ?_)
      intro w28 hz28 hb3 hG28
      replace hsz : w.heap.size ≤ w28.heap.size := by rw [hz28]; exact hsz
      replace hG0 := gm_upd hG0 hG28 (by omega)
      replace hb1 := hb1.upd hG28 (by omega)
      replace hb2 := hb2.upd hG28 (by omega)
      replace hF5 := hF5.upd hG28 (by omega)
      replace hsz5 := Nat.le_trans hsz5 hG28.size
      replace hx1 := hx1.upd hG28 (by omega)
      replace hx2 := hx2.upd hG28 (by omega)
      replace hx3 := hx3.upd hG28 (by omega)
      replace hx4 := hx4.upd hG28 (by omega)
      replace hdb := (hG28.block db (heap_lt hdb) (by simp; omega)).trans hdb
      replace hszr := Nat.le_trans hszr hG28.size
      replace hlp := hLk _ _ _ _ hlp (hG28.block l (((hLp _ _ _).1 hlp).lt) (by simp; omega))
      refine l_nil (r_round_ret rfl ((hLp _ _ _).1 hlp) ?_)
      intro we29 hze29 hge29 hl29
      replace hsz : w.heap.size ≤ we29.heap.size := by rw [hze29]; exact hsz
      replace hG0 := gm_upd hG0 hge29 (by omega)
      replace hb1 := hb1.upd hge29 (by omega)
      replace hb2 := hb2.upd hge29 (by omega)
      replace hb3 := hb3.upd hge29 (by omega)
      replace hF5 := hF5.upd hge29 (by omega)
      replace hsz5 := Nat.le_trans hsz5 hge29.size
      replace hx1 := hx1.upd hge29 (by omega)
      replace hx2 := hx2.upd hge29 (by omega)
      replace hx3 := hx3.upd hge29 (by omega)
      replace hx4 := hx4.upd hge29 (by omega)
      replace hdb := (hge29.block db (heap_lt hdb) (by simp; omega)).trans hdb
      replace hszr := Nat.le_trans hszr hge29.size
      have hlp := (hLp _ _ _).2 hl29
      exact ⟨false, rfl, (fun h => by cases h), fun _ => ⟨_, hlp, hdb, hb2, hb3, hF5, hsz5, hG0, ⟨hcX, hcl⟩⟩, hszr⟩
    · rintro _ w2 (hJ | hJ)
      ·
       obtain ⟨hG0, hb1, hb2, hb3, hF5, hsz5, hx1, hx2, hx3, hx4, hlp, hdb, hno⟩ := hJ
       refine ⟨.ready, none, (by decide), hlp, rfl, ?_⟩
       intro w3 hz3 hg3
       have hsz2 : w.heap.size ≤ w2.heap.size := by have := hG0.size; omega
       have hsz : w.heap.size ≤ w3.heap.size := by rw [hz3]; exact hsz2
       replace hG0 := gm_upd hG0 hg3 (by omega)
       replace hb2 := hb2.upd hg3 (by omega)
       replace hb3 := hb3.upd hg3 (by omega)
       replace hF5 := hF5.upd hg3 (by omega)
       replace hsz5 := Nat.le_trans hsz5 hg3.size
       replace hdb := (hg3.block db (heap_lt hdb) (by simp; omega)).trans hdb
       refine r_inBlock (r_seq (r_region' (l_o (o_store (vs := [.int .u8 0]) (cs' := [.int .u8 0]) Tryz.sizeOf5 rfl rfl rfl rfl hb2 (Nat.le_of_ble_eq_true rfl) rfl rfl ?_))))
       intro w30 hz30 hb2 hG30
       replace hsz : w.heap.size ≤ w30.heap.size := by rw [hz30]; exact hsz
       replace hG0 := gm_upd hG0 hG30 (by omega)
       replace hb3 := hb3.upd hG30 (by omega)
       replace hF5 := hF5.upd hG30 (by omega)
       replace hsz5 := Nat.le_trans hsz5 hG30.size
       replace hdb := (hG30.block db (heap_lt hdb) (by simp; omega)).trans hdb
       refine l_o (o_store (vs := [vint 0]) (cs' := [vint 0]) Tryz.sizeOf3 rfl rfl rfl rfl hb3 (Nat.le_of_ble_eq_true rfl) rfl rfl ?_)
       intro w31 hz31 hb3 hG31
       replace hsz : w.heap.size ≤ w31.heap.size := by rw [hz31]; exact hsz
       replace hG0 := gm_upd hG0 hG31 (by omega)
       replace hb2 := hb2.upd hG31 (by omega)
       replace hF5 := hF5.upd hG31 (by omega)
       replace hsz5 := Nat.le_trans hsz5 hG31.size
       replace hdb := (hG31.block db (heap_lt hdb) (by simp; omega)).trans hdb
       refine l_nil ?_
       obtain ⟨wf32, hUf, hzf32, hGf32⟩ := unw_one hdb
       replace hsz : w.heap.size ≤ wf32.heap.size := by rw [hzf32]; exact hsz
       replace hG0 := gm_upd hG0 hGf32 (by omega)
       replace hb2 := hb2.upd hGf32 (by omega)
       replace hb3 := hb3.upd hGf32 (by omega)
       replace hF5 := hF5.upd hGf32 (by omega)
       replace hsz5 := Nat.le_trans hsz5 hGf32.size
       refine r_ret_ (vs := [.int _ _, .int _ _]) rfl Tryz.func34 rfl (hUf) ⟨⟨_, _, rfl, run_loadVar1 Tryz.isAgg5 (hb2.has (o := 0) rfl)⟩, ⟨_, _, rfl, run_loadVar1 Tryz.isAgg3 (hb3.has (o := 0) rfl)⟩, trivial⟩ ?_
       exact ⟨0, (by rw [why_0 g12 g23 g44 hno]; rfl), _, _, hM5.kp hF5 (by omega) (by omega), hMemo5.kp hF5 hA8 hA9, hG0, fun p hp ha => (hwM p (by omega) ha).1⟩
      ·
       obtain ⟨(c : Nat), hlp, hdb, hb2, hb3, hF5, hsz5, hG0, hbad⟩ := hJ
       refine ⟨.done, some (.ret), (by decide), hlp, rfl, ?_⟩
       intro w3 hz3 hg3
       have hsz2 : w.heap.size ≤ w2.heap.size := by have := hG0.size; omega
       have hsz : w.heap.size ≤ w3.heap.size := by rw [hz3]; exact hsz2
       replace hb2 := hb2.upd hg3 (by omega)
       replace hb3 := hb3.upd hg3 (by omega)
       replace hF5 := hF5.upd hg3 (by omega)
       replace hsz5 := Nat.le_trans hsz5 hg3.size
       replace hG0 := gm_upd hG0 hg3 (by omega)
       replace hdb := (hg3.block db (heap_lt hdb) (by simp; omega)).trans hdb
       obtain ⟨wf33, hUf, hzf33, hGf33⟩ := unw_one hdb
       replace hsz : w.heap.size ≤ wf33.heap.size := by rw [hzf33]; exact hsz
       replace hb2 := hb2.upd hGf33 (by omega)
       replace hb3 := hb3.upd hGf33 (by omega)
       replace hF5 := hF5.upd hGf33 (by omega)
       replace hsz5 := Nat.le_trans hsz5 hGf33.size
       replace hG0 := gm_upd hG0 hGf33 (by omega)
       refine r_ret_ (vs := [.int _ _, .int _ _]) rfl Tryz.func34 rfl (hUf) ⟨⟨_, _, rfl, run_loadVar1 Tryz.isAgg5 (hb2.has (o := 0) rfl)⟩, ⟨_, _, rfl, run_loadVar1 Tryz.isAgg3 (hb3.has (o := 0) rfl)⟩, trivial⟩ ?_
       exact ⟨(c : Int), (by rw [why_4 g12 g23 g44 hbad.1 hbad.2]; rfl), _, _, hM5.kp hF5 (by omega) (by omega), hMemo5.kp hF5 hA8 hA9, hG0, fun p hp ha => (hwM p (by omega) ha).1⟩
end Go.Proofs.YtbikicakdkbcgacGreat
