/- Contracts. -/
import Derived.Test.YtbikicakdkbcgacGreatH5
import Derived.Maps.AppendAt
set_option linter.unusedVariables false
set_option linter.unusedSimpArgs false
namespace Go.Proofs.YtbikicakdkbcgacGreat
open Go Go.RowKit Go.Gv Go.Fl

/-! ### Hours, and whom a station reaches -/
/-- the numbers below n of which p is true -/
def hrsF (p : Nat → Bool) (n : Nat) : List Int := ((List.range n).filter p).map (fun q : Nat => (q : Int))
theorem hrs_yes {p : Nat → Bool} {n : Nat} (h : p n = true) : hrsF p n ++ [(n : Int)] = hrsF p (n + 1) := by
  unfold hrsF; rw [List.range_succ, List.filter_append, List.map_append]; simp [h]
theorem hrs_no {p : Nat → Bool} {n : Nat} (h : p n = false) : hrsF p n = hrsF p (n + 1) := by
  unfold hrsF; rw [List.range_succ, List.filter_append, List.map_append]; simp [h]
theorem hrs_len {p : Nat → Bool} {n : Nat} : (hrsF p n).length ≤ n := by
  unfold hrsF; rw [List.length_map]; have := List.length_filter_le p (List.range n); rw [List.length_range] at this; exact this
theorem hrs_mem {p : Nat → Bool} {n : Nat} {x : Int} : x ∈ hrsF p n ↔ ∃ q : Nat, x = (q : Int) ∧ q < n ∧ p q = true := by
  unfold hrsF
  rw [List.mem_map]
  constructor
  · rintro ⟨q, hq, rfl⟩
    have := List.mem_filter.1 hq
    exact ⟨q, rfl, List.mem_range.1 this.1, this.2⟩
  · rintro ⟨q, rfl, h1, h2⟩
    exact ⟨q, List.mem_filter.2 ⟨List.mem_range.2 h1, h2⟩, rfl⟩
def AwayV (v : Value) (es : List MapEntry) : Prop := ∀ g, v.ownBlock = some g → Away g es
section
variable {w w' w0 : World} {sl : List S4} {rl : List WL} {es es' : List MapEntry} {v : Value} {m : Nat}
theorem awayV_nil : AwayV (.slice none 0 0) es := fun g h => by cases h
theorem awayV_call (h : AwayV v es) (hl : ∀ g, v.ownBlock = some g → g < w.heap.size) (hA : ∀ p, p < w.heap.size → Away p es → Away p es') : AwayV v es' := fun g hg => hA g (hl g hg) (h g hg)
theorem awayV_app {v' : Value} (hm : MemoR w sl rl es) (h : AwayV v es) (hq : v'.ownBlock = v.ownBlock ∨ v'.ownBlock = some w.heap.size) : AwayV v' es := fun g hg => by
  rcases hq with hq | hq
  · exact h g (hq.symm.trans hg)
  · cases hq.symm.trans hg
    exact away_new hm (Nat.le_refl _)
theorem row_grown {a : Option Addr} {c : Nat} {xs : List Int} {row : Option Nat} (hr : Row w a xs.length c 1 (xs.map vint)) (hG : w.grownBy w' row) (h : ∀ g, row = some g → AwayS g a xs.length) : Row w' a xs.length c 1 (xs.map vint) := by
  have hl := row_lt2 hr
  obtain ⟨hr1, hr2, hr3⟩ := hr
  refine ⟨hr1, hr2, hr3.imp id ?_⟩
  rintro ⟨b, o, ha, hc⟩
  refine ⟨b, o, ha, fun t v hv => ?_⟩
  have h0 : 0 < xs.length := by
    cases xs with
    | nil => simp at hv
    | cons y l => simp
  have h4 := hc t v hv
  unfold Has World.cell? at h4 ⊢
  rw [hG.block b (hl h0 _ ha) (fun he => h b he.symm h0 _ ha rfl)]
  exact h4
theorem MemoR.grown (hm : MemoR w sl rl es) (h : AwayV v es) (hG : w.grownBy w' v.ownBlock) : MemoR w' sl rl es := fun en hen => by
  obtain ⟨i, j, a, c, xs, e1, e2, e3, e4⟩ := hm en hen
  exact ⟨i, j, a, c, xs, e1, e2, row_grown e3 hG (fun g hg => h g hg en hen _ _ _ e2), e4⟩
theorem gm_own {B el sz n : Nat} {xs : List Value} (h : w0.grownBy w (some m)) (ho : w.ownsRow B el sz v n xs) (hG : w.grownBy w' v.ownBlock) (hB : w0.heap.size ≤ B) : w0.grownBy w' (some m) :=
  ⟨hG.os.trans h.os, hG.tape.trans h.tape, hG.output.trans h.output, Nat.le_trans h.size hG.size, fun k hk hn => (hG.block k (Nat.lt_of_lt_of_le hk h.size) (fun he => by have := (ho.lt k he.symm).1; omega)).trans (h.block k hk hn)⟩
end
theorem _root_.Go.Gv.MapAt.own {w w' : World} {m ck base e size n : Nat} {es : List MapEntry} {v : Value} {xs : List Value} (h : MapAt w m es ck) (ho : w.ownsRow base e size v n xs) (hG : w.grownBy w' v.ownBlock) : MapAt w' m es ck := h.keep (hG.block m h.lt (fun he => by
  rcases ho.2 with ⟨h1, _⟩ | ⟨g', cap', cur, h1, _, hg2, _⟩
  · rw [h1] at he; cases he
  · rw [h1] at he
    simp only [Value.ownBlock, Option.some.injEq] at he
    subst he
    exact h.unc _ _ _ hg2))
theorem o_append_at {α : Type} {f : α → Value} (xs ys : List α) {P : Program} {ops : Array Oper} {e : Env} {w : World} {d : Option Nat} {ty : TypeId} {pos : String} {af : Array Edge} {g : Option (Nat × Bool)} {K : Value → World → Prop} {t el : TypeId} {at_ : Array TypeId} {x y : Operand} {z : Value} {bytes base : Nat} {a a2 : Option Addr} {c c2 : Nat} (ht : P.underlying t = some (.slice el)) (he : Elem P el z 1 bytes) (hat : at_ = #[t, t])
    (hx : ev e x = .slice a xs.length c) (hown : w.ownsRow base el 1 (.slice a xs.length c) xs.length (xs.map f)) (hy : ev e y = .slice a2 ys.length c2) (hrow : Row w a2 ys.length c2 1 (ys.map f)) (hne : 0 < ys.length) (h1 : ∀ x, (f x).oneCell' = true)
    (hbytes : xs.length + ys.length ≤ 140737488355328 ∧ (xs.length + ys.length) * bytes ≤ 140737488355328) (hbase : base ≤ w.heap.size)
    (hw : wantedE ops e ⟨d, .call ⟨.builtin .append, #[x, y], at_⟩, ty, pos, af, g⟩ = true)
    (h : ∀ a' c' w', w.heap.size ≤ w'.heap.size → w'.ownsRow base el 1 (.slice a' (xs ++ ys).length c') (xs ++ ys).length ((xs ++ ys).map f) → w.grownBy w' (Value.ownBlock (.slice a xs.length c)) →
      ((Value.slice a' (xs ++ ys).length c').ownBlock = (Value.slice a xs.length c).ownBlock ∨ (Value.slice a' (xs ++ ys).length c').ownBlock = some w.heap.size) →
      K (.slice a' (xs ++ ys).length c') w') : EffAt P ops e w ⟨d, .call ⟨.builtin .append, #[x, y], at_⟩, ty, pos, af, g⟩ K := by
  subst hat
  obtain ⟨i, hi, hz, hs, hby⟩ := he.info
  rcases hrow.2.2 with h0 | ⟨b, o, ha, hc⟩
  · have h2 := congrArg List.length h0
    rw [List.length_map, List.length_nil] at h2
    omega
  · subst ha
    obtain ⟨v', w', hr, h2, h3, _, h5⟩ := run_append_own_at (P := P) (w := w) base t ty el i z 1 bytes ht hi hz hs hby he.zs he.pos (.slice a xs.length c) xs.length (xs.map f) hown ⟨b, o, none⟩ ys.length c2 (ys.map f) hrow.1
      (fun j u hj => by rw [Addr.add_lit]; exact hc j u hj) (fun u hu => by obtain ⟨q, _, rfl⟩ := List.mem_map.1 hu; exact h1 q) (by unfold maxLen; omega) hbytes.2 hbase
    obtain ⟨a', c', rfl⟩ := owns_slice h2
    refine e_value (v := .slice a' (xs.length + ys.length) c') (w' := w') hw rfl ?_ (by
      have h6 := h a' c' w' h3.size (by rw [List.length_append, List.map_append]; exact h2) h3 (by rw [List.length_append]; exact h5)
      rwa [List.length_append] at h6)
    simp [execOp, resolve, invoke, builtin, hx, hy, hr]
/-- one row is laid anew, the others stay: still each in a block of its own -/


theorem can_ret (sa : Option Addr) (sc : Nat) (sl : List S4) (ra : Option Addr) (rc : Nat) (rl : List WL) (ka : Option Addr) (kc : Nat) (kl : List KV) (ua : Option Addr) (uc : Nat) (ul : List S3) (wb m : Nat) (clock : Nat) (es : List MapEntry) (i j ki h : Nat) (w : World) (hok : OkL sl rl kl ul) (hk : HwH w sa sc sl ra rc rl ka kc kl ua uc ul wb m) (hM : MapAt w m es clock) (hMemo : MemoR w sl rl es) (hgi : i < sl.length) (hgj : j < sl.length) (hgk : ki < kl.length) (hgh : h < ul.length) : Ret Tryz.prog 23 [ptr wb 0, .agg ⟨[vint (i : Int), vint (j : Int)]⟩, vint (ki : Int), vint (h : Int)] w (fun v w' => v = .bool (canF sl rl kl ul i j ki h) ∧ ∃ es2 ck2, MapAt w' m es2 ck2 ∧ MemoR w' sl rl es2 ∧ w.grownBy w' (some m) ∧ (∀ p, p < w.heap.size → Away p es → Away p es2)) := by
 have hs6 := hok.s6
 have hr6 := hok.r6
 have hk4 := hok.k4
 have hu12 := hok.u12
 have hs0 := hok.s0
 have hk0 := hok.k0
 have hu0 := hok.u0
 have hwbl := hk.blk.lt
 have hM0 := hM
 have hMemo0 := hMemo
 have hG0 := gm_refl m w
 have hmN := hM.lt
 have hsz : w.heap.size ≤ w.heap.size := Nat.le_refl _
 refine ret_of_runs (args := [_, _, _, _]) Tryz.func23 rfl (Nat.le_of_ble_eq_true rfl) (by kernel_rfl) (r_seq (r_region' (l_o (o_box rfl rfl rfl ?_))))
 intro b1 w1 hzl1 hzr1 _ hb1 hE1
 have hne_wb_b1 : wb ≠ b1 := by have := hk.blk.lt; omega
 have hbs_b1 : w.heap.size ≤ b1 := Nat.le_trans hsz hzl1
 replace hM := hM.keep (hE1.block m hM.lt (by simp))
 replace hMemo := hMemo.ext hE1
 replace hG0 := grown_trans hG0 (gm_ext hE1)
 replace hsz := Nat.le_trans hsz hE1.size
 refine l_q (qab rfl rfl) (l_nil (r_seq (r_region' (l_q (q_move (v := .pointer _) rfl rfl) (l_q (q_load_agg (n := 2) Tryz.isAgg78 Tryz.sizeOf78 rfl ((hb1.cells' (cs' := [_, _]) 0 2 rfl)) rfl rfl) (l_q (qmi rfl rfl) (l_q (qmi rfl rfl) (l_o (o_call Tryz.call34 rfl (why_ret sa sc sl ra rc rl ka kc kl ua uc ul wb m clock es i j ki h _ hok (hk.gm hM0 hG0) hM hMemo hgi hgj hgk hgh) rfl ?_)))))))))
 rintro _ w2 ⟨xw, rfl, esc2, ckc2, hMc2, hMm2, hGc2, hAw2⟩
 have hwM2 := hAw2
 replace hsz : w.heap.size ≤ w2.heap.size := Nat.le_trans hsz hGc2.size
 replace hG0 := gm_upd hG0 hGc2 (by omega)
 replace hb1 := hb1.upd hGc2 (by omega)
 have hM := hMc2
 have hMemo := hMm2
 refine l_q (q_move (v := .tuple _) rfl rfl) (l_q (q_extract (vs := [_, _]) (v := .int _ _) rfl rfl rfl) (l_q (q_extract (vs := [_, _]) (v := .int _ _) rfl rfl rfl) (l_q (qai rfl rfl) (l_q (qai rfl rfl) (l_nil (r_forget [(5, .pointer _), (9, .int _ _)] ⟨rfl, rfl, trivial⟩ (fun e3 => (r_seq (r_region' (l_q (q_fieldAddr (o' := 0) rfl fld78_0 rfl) (l_q (q_load Tryz.isAgg3 rfl ((hb1.has (o := 0) rfl)) rfl) (l_q (q_fieldAddr (o' := 1) rfl fld78_1 rfl) (l_q (q_load Tryz.isAgg3 rfl ((hb1.has (o := 1) rfl)) rfl) (l_q (q_neq rfl rfl rfl) (l_q (qmb rfl rfl) (l_part 24 rfl (fun hc4 => ?_) (fun hc4 => ?_)))))))))))))))))
 ·
  replace hc4 := df (nt hc4)
  refine l_q (qmi rfl rfl) (l_q (q_eql rfl rfl rfl) (l_q (q_pick_t (v := .bool _) rfl rfl rfl) (l_q (qab rfl rfl) (l_nil (r_forget [(8, .bool _)] ⟨rfl, trivial⟩ (fun e5 => (r_ret_ (vs := [.bool _]) rfl Tryz.func23 rfl (.nil _) ⟨rfl, trivial⟩ ?_)))))))
  exact ⟨vbool_eq (by symm; unfold canF; simp_all <;> omega), _, _, hM, hMemo, hG0, fun p hp ha => hAw2 p (by omega) ha⟩
 ·
  replace hc4 := dt (nf hc4)
  refine l_q (q_skip rfl) (l_q (q_skip rfl) (l_q (q_pick_f (v := .bool _) rfl rfl rfl) (l_q (qab rfl rfl) (l_nil (r_forget [(8, .bool _)] ⟨rfl, trivial⟩ (fun e6 => (r_ret_ (vs := [.bool _]) rfl Tryz.func23 rfl (.nil _) ⟨rfl, trivial⟩ ?_)))))))
  exact ⟨vbool_eq (by symm; unfold canF; simp_all <;> omega), _, _, hM, hMemo, hG0, fun p hp ha => hAw2 p (by omega) ha⟩
theorem hours1_ret (sa : Option Addr) (sc : Nat) (sl : List S4) (ra : Option Addr) (rc : Nat) (rl : List WL) (ka : Option Addr) (kc : Nat) (kl : List KV) (ua : Option Addr) (uc : Nat) (ul : List S3) (wb m : Nat) (q1 q2 q3 : Nat) (clock : Nat) (es : List MapEntry) (i j ki h : Nat) (w : World) (hok : OkL sl rl kl ul) (hk : HwH w sa sc sl ra rc rl ka kc kl ua uc ul wb m) (hM : MapAt w m es clock) (hMemo : MemoR w sl rl es) (hq1 : Blk w q1 [ptr wb 0]) (hq2 : Blk w q2 [vint (i : Int), vint (j : Int)]) (hq3 : Blk w q3 [vint (ki : Int)]) (hgi : i < sl.length) (hgj : j < sl.length) (hgk : ki < kl.length) (hgh : h < ul.length) : Ret Tryz.prog 22 [vint (h : Int), ptr q1 0, ptr q2 0, ptr q3 0] w (fun v w' => v = .bool (canF sl rl kl ul i j ki h) ∧ ∃ es2 ck2, MapAt w' m es2 ck2 ∧ MemoR w' sl rl es2 ∧ w.grownBy w' (some m) ∧ (∀ p, p < w.heap.size → Away p es → Away p es2)) := by
 have hs6 := hok.s6
 have hr6 := hok.r6
 have hk4 := hok.k4
 have hu12 := hok.u12
 have hs0 := hok.s0
 have hk0 := hok.k0
 have hu0 := hok.u0
 have hwbl := hk.blk.lt
 have hM0 := hM
 have hMemo0 := hMemo
 have hG0 := gm_refl m w
 have hmN := hM.lt
 have hql1 := hq1.lt
 have hql2 := hq2.lt
 have hql3 := hq3.lt
 have hsz : w.heap.size ≤ w.heap.size := Nat.le_refl _
 refine ret_of_runs (args := [_, _, _, _]) Tryz.func22 rfl (Nat.le_of_ble_eq_true rfl) (by kernel_rfl) (r_seq (r_region' (l_q (qab rfl rfl) (l_nil (r_seq (r_region' (l_q (q_load Tryz.isAgg74 rfl (((hq1.gm hM0 hG0).has (o := 0) rfl)) rfl) (l_q (q_load_agg (n := 2) Tryz.isAgg78 Tryz.sizeOf78 rfl (((hq2.gm hM0 hG0).cells' (cs' := [_, _]) 0 2 rfl)) rfl rfl) (l_q (q_load Tryz.isAgg3 rfl (((hq3.gm hM0 hG0).has (o := 0) rfl)) rfl) (l_q (qmi rfl rfl) (l_o (o_call Tryz.call23 rfl (can_ret sa sc sl ra rc rl ka kc kl ua uc ul wb m clock es i j ki h _ hok (hk.gm hM0 hG0) hM hMemo hgi hgj hgk hgh) rfl ?_))))))))))))
 rintro _ w1 ⟨rfl, esc1, ckc1, hMc1, hMm1, hGc1, hAw1⟩
 have hwM1 := hAw1
 replace hsz : w.heap.size ≤ w1.heap.size := Nat.le_trans hsz hGc1.size
 replace hG0 := gm_upd hG0 hGc1 (by omega)
 have hM := hMc1
 have hMemo := hMm1
 refine l_q (qab rfl rfl) (l_nil (r_ret_ (vs := [.bool _]) rfl Tryz.func22 rfl (.nil _) ⟨rfl, trivial⟩ ?_))
 exact ⟨rfl, _, _, hM, hMemo, hG0, hAw1⟩
theorem lhours_ret (sa : Option Addr) (sc : Nat) (sl : List S4) (ra : Option Addr) (rc : Nat) (rl : List WL) (ka : Option Addr) (kc : Nat) (kl : List KV) (ua : Option Addr) (uc : Nat) (ul : List S3) (wb m : Nat) (q1 q2 q3 : Nat) (clock : Nat) (es : List MapEntry) (i j ki : Nat) (w : World) (hok : OkL sl rl kl ul) (hk : HwH w sa sc sl ra rc rl ka kc kl ua uc ul wb m) (hM : MapAt w m es clock) (hMemo : MemoR w sl rl es) (hq1 : Blk w q1 [ptr wb 0]) (hq2 : Blk w q2 [vint (i : Int), vint (j : Int)]) (hq3 : Blk w q3 [vint (ki : Int)]) (hgi : i < sl.length) (hgj : j < sl.length) (hgk : ki < kl.length) : Ret Tryz.prog 21 [.agg ⟨[.slice sa sl.length sc, .slice ra rl.length rc, .slice ka kl.length kc, .slice ua ul.length uc]⟩, .func (.func 22) ⟨[]⟩ ⟨[ptr q1 0, ptr q2 0, ptr q3 0]⟩] w (fun v w' => ∃ oa oc, v = .slice oa (hrsF (fun q => canF sl rl kl ul i j ki q) ul.length).length oc ∧ Row w' oa (hrsF (fun q => canF sl rl kl ul i j ki q) ul.length).length oc 1 ((hrsF (fun q => canF sl rl kl ul i j ki q) ul.length).map vint) ∧ w.grownBy w' (some m)) := by
 have hs6 := hok.s6
 have hr6 := hok.r6
 have hk4 := hok.k4
 have hu12 := hok.u12
 have hs0 := hok.s0
 have hk0 := hok.k0
 have hu0 := hok.u0
 have hwbl := hk.blk.lt
 have hM0 := hM
 have hMemo0 := hMemo
 have hG0 := gm_refl m w
 have hmN := hM.lt
 have hql1 := hq1.lt
 have hql2 := hq2.lt
 have hql3 := hq3.lt
 have hgh0 : 0 < ul.length := hok.u0
 have hsz : w.heap.size ≤ w.heap.size := Nat.le_refl _
 refine ret_of_runs (args := [_, _]) Tryz.func21 rfl (Nat.le_of_ble_eq_true rfl) (by kernel_rfl) (r_seq (r_region' (l_o (o_box rfl rfl rfl ?_))))
 intro b1 w1 hzl1 hzr1 _ hb1 hE1
 have hne_wb_b1 : wb ≠ b1 := by have := hk.blk.lt; omega
 have hne_q1_b1 : q1 ≠ b1 := by have := hq1.lt; omega
 have hne_q2_b1 : q2 ≠ b1 := by have := hq2.lt; omega
 have hne_q3_b1 : q3 ≠ b1 := by have := hq3.lt; omega
 have hbs_b1 : w.heap.size ≤ b1 := Nat.le_trans hsz hzl1
 replace hM := hM.keep (hE1.block m hM.lt (by simp))
 replace hMemo := hMemo.ext hE1
 replace hG0 := grown_trans hG0 (gm_ext hE1)
 replace hsz := Nat.le_trans hsz hE1.size
 refine l_q (qas rfl rfl) (l_nil (r_seq (r_seq (r_region' (l_q (q_fieldAddr (o' := 3) rfl fld52_3 rfl) (l_q (q_load Tryz.isAgg50 rfl ((hb1.has (o := 3) rfl)) rfl) (l_q (q_len rfl Tryz.underlying50 rfl rfl) (l_q (qmi rfl rfl) (l_nil (r_block (r_rounds (α := Nat × (Option Addr) × Nat × (List Int)) (fun ⟨q, oa, oc, X⟩ e wl => Knows e [(1, .func (.func 22) ⟨[]⟩ ⟨[ptr q1 0, ptr q2 0, ptr q3 0]⟩), (4, .slice oa X.length oc), (8, vint (ul.length : Int)), (9, vint (q : Int))] ∧ (q ≤ ul.length) ∧ (X = hrsF (fun q => canF sl rl kl ul i j ki q) q) ∧ (X.length ≤ q) ∧ (wl.ownsRow w.heap.size 3 1 (.slice oa X.length oc) X.length (X.map vint)) ∧ (∃ es2 ck2, MapAt wl m es2 ck2 ∧ MemoR wl sl rl es2 ∧ AwayV (.slice oa X.length oc) es2) ∧ (w.grownBy wl (some m)) ∧ (w.heap.size ≤ wl.heap.size)) (fun ⟨q, oa, oc, X⟩ => ul.length - q) (0, none, 0, []) ?_ ?_)))))))))))
 ·
  exact ⟨⟨rfl, rfl, rfl, rfl, trivial⟩, (Nat.zero_le _), (by simp [hrsF]), (Nat.le_refl _), (World.ownsRow_nil _ _ _ _), ⟨_, _, hM, hMemo, awayV_nil⟩, hG0, hsz⟩
 ·
  rintro ⟨q, oa, oc, X⟩ el2 wl2 ⟨hkn, hq2v, hX, hXl, hco, hM, hG0, hsz⟩ ih2
  obtain ⟨e2, rfl⟩ := knows_env hkn
  obtain ⟨es2, ck2, hM, hMemo, hAV⟩ := hM
  refine r_seq (r_region' (l_q (q_lss rfl rfl rfl) (l_nil (r_seq (r_cond rfl (fun hc3 => ?_) (fun hc3 => ?_))))))
  ·
   replace hc3 := dt hc3
   have hgq : q < ul.length := by omega
   refine r_skip (r_seq (r_block (r_seq (r_region' (l_q (qmi rfl rfl) (l_q (qai rfl rfl) (l_nil (r_seq ?_))))))))
   have hlo := fun g hg => (hco.lt g hg).2
   refine r_region' (l_q (q_move (v := .func _ _ _) rfl rfl) (l_q (qmi rfl rfl) (l_o (o_callv (f := 22) (fst := []) (cap := [_, _, _]) rfl Tryz.call22 rfl (hours1_ret sa sc sl ra rc rl ka kc kl ua uc ul wb m q1 q2 q3 ck2 es2 i j ki q _ hok (hk.gm hM0 hG0) hM hMemo (hq1.gm hM0 hG0) (hq2.gm hM0 hG0) (hq3.gm hM0 hG0) hgi hgj hgk hgq) rfl ?_))))
   rintro _ w4 ⟨rfl, esc4, ckc4, hMc4, hMm4, hGc4, hAw4⟩
   have hwM4 := hAw4
   replace hsz : w.heap.size ≤ w4.heap.size := Nat.le_trans hsz hGc4.size
   replace hG0 := gm_upd hG0 hGc4 (by omega)
   replace hco := own_updlt hco hGc4 (by omega)
   have hM := hMc4
   have hMemo := hMm4
   refine l_nil (r_cond rfl (fun hc5 => ?_) (fun hc5 => ?_))
   ·
    have g45 := hc5
    replace hAV := awayV_call hAV hlo hwM4
    refine r_region' (l_q (qms rfl rfl) (l_q (qmi rfl rfl) (l_o (o_buildSlice (el := 3) (cs := [vint (q : Int)]) Tryz.underlying31 el3 (by decide) (by kernel_rfl) rfl (by decide) rfl ?_))))
    intro b6 w6 hzl6 hzr6 _ hb6 hE6 ho6
    have hne_wb_b6 : wb ≠ b6 := by have := hk.blk.lt; omega
    have hne_q1_b6 : q1 ≠ b6 := by have := hq1.lt; omega
    have hne_q2_b6 : q2 ≠ b6 := by have := hq2.lt; omega
    have hne_q3_b6 : q3 ≠ b6 := by have := hq3.lt; omega
    have hbs_b6 : w.heap.size ≤ b6 := Nat.le_trans hsz hzl6
    replace hG0 := grown_trans hG0 (gm_ext hE6)
    replace hco := own_ext hco hE6
    replace hM := hM.keep (hE6.block m hM.lt (by simp))
    replace hMemo := hMemo.ext hE6
    replace hsz := Nat.le_trans hsz hE6.size
    refine l_o (o_append_at (f := vint) (X) ([(q : Int)]) Tryz.underlying31 el3 rfl rfl hco rfl (Row.of_owns ho6) (Nat.zero_lt_succ _) (fun _ => rfl) (by (try simp only [List.length_append, List.length_cons, List.length_nil]); omega) hG0.size rfl ?_)
    intro aq7 cq7 w7 hz7 ho7 hG7 hq7
    have hAVn := awayV_app hMemo hAV hq7
    replace hsz := Nat.le_trans hsz hG7.size
    replace hG0 := gm_own hG0 hco hG7 (Nat.le_refl _)
    replace hM := hM.own hco hG7
    replace hMemo := hMemo.grown hAV hG7
    replace hAV := hAVn
    refine l_q (qas rfl rfl) (l_nil (r_forget [(1, .func _ _ _), (4, .slice _ _ _), (8, .int _ _), (9, .int _ _)] ⟨rfl, rfl, rfl, rfl, trivial⟩ (fun e8 => (r_inBlock (r_region' (l_q (q_add rfl rfl (by omega) rfl) (l_q (qmi rfl rfl) (l_nil ?_))))))))
    exact ih2 (q + 1, aq7, cq7, (X ++ [(q : Int)])) _ _ ⟨⟨rfl, rfl, rfl, (vint_eq (by omega)), trivial⟩, (by omega), (by rw [hX]; first | exact hrs_yes g45 | exact hrs_no g45), (by first | (rw [List.length_append]; simp only [List.length_cons, List.length_nil]; omega) | omega), ho7, ⟨_, _, hM, hMemo, hAV⟩, hG0, hsz⟩ (by first | omega | (dsimp only; omega))
   ·
    have g45 := hc5
    replace hAV := awayV_call hAV hlo hwM4
    refine r_skip (r_inBlock (r_region' (l_q (q_add rfl rfl (by omega) rfl) (l_q (qmi rfl rfl) (l_nil ?_)))))
    exact ih2 (q + 1, oa, oc, X) _ _ ⟨⟨rfl, rfl, rfl, (vint_eq (by omega)), trivial⟩, (by omega), (by rw [hX]; first | exact hrs_yes g45 | exact hrs_no g45), (by first | (rw [List.length_append]; simp only [List.length_cons, List.length_nil]; omega) | omega), hco, ⟨_, _, hM, hMemo, hAV⟩, hG0, hsz⟩ (by first | omega | (dsimp only; omega))
  ·
   replace hc3 := dlt hc3
   refine r_exit rfl (r_seq (r_region' (l_q (qms rfl rfl) (l_q (qas rfl rfl) (l_nil (r_ret_ (vs := [.slice _ _ _]) rfl Tryz.func21 rfl (.nil _) ⟨rfl, trivial⟩ ?_))))))
   have hqe : q = ul.length := by omega
   subst hqe
   subst hX
   exact ⟨oa, oc, rfl, Row.of_owns hco, hG0⟩
theorem Hours_ret (sa : Option Addr) (sc : Nat) (sl : List S4) (ra : Option Addr) (rc : Nat) (rl : List WL) (ka : Option Addr) (kc : Nat) (kl : List KV) (ua : Option Addr) (uc : Nat) (ul : List S3) (i j ki : Nat) (w : World) (hla : LandAt w sa sc sl ra rc rl ka kc kl ua uc ul) (hok : OkL sl rl kl ul) (hgi : i < sl.length) (hgj : j < sl.length) (hgk : ki < kl.length) (hne : i ≠ j) : Ret Tryz.prog 11 [.agg ⟨[.slice sa sl.length sc, .slice ra rl.length rc, .slice ka kl.length kc, .slice ua ul.length uc]⟩, vint (i : Int), vint (j : Int), vint (ki : Int)] w (fun v w' => ∃ oa oc, v = .tuple ⟨[.slice oa (hrsF (fun q => canF sl rl kl ul i j ki q) ul.length).length oc, vint 0]⟩ ∧ Row w' oa (hrsF (fun q => canF sl rl kl ul i j ki q) ul.length).length oc 1 ((hrsF (fun q => canF sl rl kl ul i j ki q) ul.length).map vint) ∧ Ext w w') := by
 have hs6 := hok.s6
 have hr6 := hok.r6
 have hk4 := hok.k4
 have hu12 := hok.u12
 have hs0 := hok.s0
 have hk0 := hok.k0
 have hu0 := hok.u0
 have hB := Below.refl w.heap.size w
 have hsz : w.heap.size ≤ w.heap.size := Nat.le_refl _
 refine ret_of_runs (args := [_, _, _, _]) Tryz.func11 rfl (Nat.le_of_ble_eq_true rfl) (by kernel_rfl) (r_seq (r_region' (l_o (o_box rfl rfl rfl ?_))))
 intro b1 w1 hzl1 hzr1 _ hb1 hE1
 have hbs_b1 : w.heap.size ≤ b1 := Nat.le_trans hsz hzl1
 replace hB := below_ext hB hE1 hsz
 replace hsz := Nat.le_trans hsz hE1.size
 refine l_o (o_box rfl rfl rfl ?_)
 intro b2 w2 hzl2 hzr2 _ hb2 hE2
 have hne_b1_b2 : b1 ≠ b2 := by have := hb1.lt; omega
 have hbs_b2 : w.heap.size ≤ b2 := Nat.le_trans hsz hzl2
 replace hB := below_ext hB hE2 hsz
 replace hb1 := hb1.ext hE2
 replace hsz := Nat.le_trans hsz hE2.size
 refine l_q (qas rfl rfl) (l_q (qai rfl rfl) (l_nil (r_seq (r_region' (l_q (q_load_agg (n := 4) Tryz.isAgg52 Tryz.sizeOf52 rfl ((hb1.cells' (cs' := [_, _, _, _]) 0 4 rfl)) rfl rfl) (l_o (o_call Tryz.call19 rfl (hwork_ret sa sc sl ra rc rl ka kc kl ua uc ul _ (hla.below hB) hok) rfl ?_)))))))
 rintro _ w3 ⟨wb, m, rfl, hbw, hbm, hMw, hkw, hEw⟩
 have hbs_wb : w.heap.size ≤ wb := Nat.le_trans hsz hbw
 have hbs_m : w.heap.size ≤ m := Nat.le_trans hsz hbm
 replace hB := below_ext hB hEw hsz
 replace hb1 := hb1.ext hEw
 replace hb2 := hb2.ext hEw
 replace hsz := Nat.le_trans hsz hEw.size
 have hBE := Below.refl w3.heap.size w3
 have hszq : w3.heap.size ≤ w3.heap.size := Nat.le_refl _
 refine l_q (q_move (v := .tuple _) rfl rfl) (l_q (q_extract (vs := [_, _]) (v := .pointer _) rfl rfl rfl) (l_q (q_extract (vs := [_, _]) (v := .int _ _) rfl rfl rfl) (l_o (o_alloc Tryz.zeroValue74 rfl rfl ?_))))
 intro b4 w4 hzl4 hzr4 _ hb4 hE4
 have hne_b1_b4 : b1 ≠ b4 := by have := hb1.lt; omega
 have hne_b2_b4 : b2 ≠ b4 := by have := hb2.lt; omega
 have hqb_b4 := Nat.le_trans hszq hzl4
 have hbs_b4 : w.heap.size ≤ b4 := Nat.le_trans hsz hzl4
 replace hB := below_ext hB hE4 hsz
 replace hb1 := hb1.ext hE4
 replace hb2 := hb2.ext hE4
 replace hBE := below_ext hBE hE4 hBE.size
 replace hszq := Nat.le_trans hszq hE4.size
 replace hsz := Nat.le_trans hsz hE4.size
 refine l_o (o_store (vs := [ptr wb 0]) (cs' := [ptr wb 0]) Tryz.sizeOf74 rfl rfl rfl rfl hb4 (Nat.le_of_ble_eq_true rfl) rfl rfl ?_)
 intro w5 hz5 hb4 hG5
 replace hB := below_upd hB hG5 hsz (by omega)
 replace hsz : w.heap.size ≤ w5.heap.size := by rw [hz5]; exact hsz
 replace hb1 := hb1.upd hG5 (by omega)
 replace hb2 := hb2.upd hG5 (by omega)
 replace hBE := below_upd hBE hG5 hBE.size (by omega)
 replace hszq := Nat.le_trans hszq hG5.size
 refine l_q (qai rfl rfl) (l_nil (r_seq (r_seq (r_region' (l_q (qmi rfl rfl) (l_q (q_neq rfl rfl rfl) (l_nil (r_forget [(1, .int _ _), (2, .int _ _), (4, .pointer _), (7, .pointer _), (10, .pointer _), (11, .int _ _), (20, .bool _)] ⟨rfl, rfl, rfl, rfl, rfl, rfl, rfl, trivial⟩ (fun e6 => ?_)))))))))
 have hk7 : (!decide (0 = 0)) = false := by decide
 refine r_cond_f ((congrArg Value.bool hk7 : Value.bool _ = _)) (r_skip (r_seq (r_region' (l_q (qmi rfl rfl) (l_q (qmi rfl rfl) (l_q (q_build (v := .agg ⟨[vint (i : Int), vint (j : Int)]⟩) (fun w => by kernel_rfl) rfl) (l_o (o_alloc Tryz.zeroValue78 rfl rfl ?_))))))))
 intro b8 w8 hzl8 hzr8 _ hb8 hE8
 have hne_b1_b8 : b1 ≠ b8 := by have := hb1.lt; omega
 have hne_b2_b8 : b2 ≠ b8 := by have := hb2.lt; omega
 have hne_b4_b8 : b4 ≠ b8 := by have := hb4.lt; omega
 have hqb_b8 := Nat.le_trans hszq hzl8
 have hbs_b8 : w.heap.size ≤ b8 := Nat.le_trans hsz hzl8
 replace hB := below_ext hB hE8 hsz
 replace hb1 := hb1.ext hE8
 replace hb2 := hb2.ext hE8
 replace hBE := below_ext hBE hE8 hBE.size
 replace hszq := Nat.le_trans hszq hE8.size
 replace hb4 := hb4.ext hE8
 replace hsz := Nat.le_trans hsz hE8.size
 refine l_o (o_store (vs := [vint (i : Int), vint (j : Int)]) (cs' := [vint (i : Int), vint (j : Int)]) Tryz.sizeOf78 rfl rfl rfl rfl hb8 (Nat.le_of_ble_eq_true rfl) rfl rfl ?_)
 intro w9 hz9 hb8 hG9
 replace hB := below_upd hB hG9 hsz (by omega)
 replace hsz : w.heap.size ≤ w9.heap.size := by rw [hz9]; exact hsz
 replace hb1 := hb1.upd hG9 (by omega)
 replace hb2 := hb2.upd hG9 (by omega)
 replace hBE := below_upd hBE hG9 hBE.size (by omega)
 replace hszq := Nat.le_trans hszq hG9.size
 replace hb4 := hb4.upd hG9 (by omega)
 refine l_nil (r_seq (r_seq (r_region' (l_q (q_load_agg (n := 4) Tryz.isAgg52 Tryz.sizeOf52 rfl ((hb1.cells' (cs' := [_, _, _, _]) 0 4 rfl)) rfl rfl) (l_q (q_load_agg (n := 2) Tryz.isAgg78 Tryz.sizeOf78 rfl ((hb8.cells' (cs' := [_, _]) 0 2 rfl)) rfl rfl) (l_q (q_load Tryz.isAgg3 rfl ((hb2.has (o := 0) rfl)) rfl) (l_o (o_call Tryz.call20 rfl (asked_ret sa sc sl ra rc rl ka kc kl ua uc ul i j ki 0 _ hok hgi hgj hgk hok.u0) rfl ?_))))))))
 rintro _ w10 ⟨rfl, hE10⟩
 replace hB := below_ext hB hE10 hsz
 replace hb1 := hb1.ext hE10
 replace hb2 := hb2.ext hE10
 replace hBE := below_ext hBE hE10 hBE.size
 replace hszq := Nat.le_trans hszq hE10.size
 replace hb4 := hb4.ext hE10
 replace hb8 := hb8.ext hE10
 replace hsz := Nat.le_trans hsz hE10.size
 refine l_q (qai rfl rfl) (l_nil (r_forget [(4, .pointer _), (7, .pointer _), (10, .pointer _), (12, .pointer _), (13, .int _ _)] ⟨rfl, rfl, rfl, rfl, rfl, trivial⟩ (fun e11 => (r_seq (r_region' (l_q (qmi rfl rfl) (l_q (q_neq rfl rfl rfl) (l_nil ?_))))))))
 have hk12 : (!decide ((if i = j then 6 else 0 : Int) = 0)) = false := by rw [if_neg hne]; decide
 refine r_cond_f ((congrArg Value.bool hk12 : Value.bool _ = _)) (r_skip (r_seq (r_region' (l_q (q_load_agg (n := 4) Tryz.isAgg52 Tryz.sizeOf52 rfl ((hb1.cells' (cs' := [_, _, _, _]) 0 4 rfl)) rfl rfl) (l_q (q_makeFunc (v := .func _ ⟨[]⟩ ⟨[_, _, _]⟩) rfl rfl) (l_o (o_call Tryz.call21 rfl (lhours_ret sa sc sl ra rc rl ka kc kl ua uc ul wb m b4 b8 b2 0 [] i j ki _ hok (hkw.ext (Ext.of_below hBE)) (hMw.ext (Ext.of_below hBE)) MemoR.nil hb4 hb8 hb2 hgi hgj hgk) rfl ?_)))))))
 rintro _ w13 ⟨oa, oc, rfl, hRo, hGh⟩
 replace hB := below_upd_any hB hGh hbs_m hsz
 replace hsz := Nat.le_trans hsz hGh.size
 refine l_q (qas rfl rfl) (l_q (qai rfl rfl) (l_nil (r_forget [(8, .slice _ _ _), (9, .int _ _)] ⟨rfl, rfl, trivial⟩ (fun e14 => (r_ret_ (vs := [.slice _ _ _, .int _ _]) rfl Tryz.func11 rfl (.nil _) ⟨rfl, rfl, trivial⟩ ?_)))))
 exact ⟨oa, oc, rfl, hRo, Ext.of_below hB⟩
theorem Reach_ret (sa : Option Addr) (sc : Nat) (sl : List S4) (ra : Option Addr) (rc : Nat) (rl : List WL) (ka : Option Addr) (kc : Nat) (kl : List KV) (ua : Option Addr) (uc : Nat) (ul : List S3) (i ki h : Nat) (w : World) (hla : LandAt w sa sc sl ra rc rl ka kc kl ua uc ul) (hok : OkL sl rl kl ul) (hgi : i < sl.length) (hgk : ki < kl.length) (hgh : h < ul.length) : Ret Tryz.prog 74 [.agg ⟨[.slice sa sl.length sc, .slice ra rl.length rc, .slice ka kl.length kc, .slice ua ul.length uc]⟩, vint (i : Int), vint (ki : Int), vint (h : Int)] w (fun v w' => ∃ oa oc, v = .tuple ⟨[.slice oa (hrsF (fun q => canF sl rl kl ul i q ki h) sl.length).length oc, vint 0]⟩ ∧ Row w' oa (hrsF (fun q => canF sl rl kl ul i q ki h) sl.length).length oc 1 ((hrsF (fun q => canF sl rl kl ul i q ki h) sl.length).map vint) ∧ Ext w w') := by
 have hs6 := hok.s6
 have hr6 := hok.r6
 have hk4 := hok.k4
 have hu12 := hok.u12
 have hs0 := hok.s0
 have hk0 := hok.k0
 have hu0 := hok.u0
 have hB := Below.refl w.heap.size w
 have hsz : w.heap.size ≤ w.heap.size := Nat.le_refl _
 refine ret_of_runs (args := [_, _, _, _]) Tryz.func74 rfl (Nat.le_of_ble_eq_true rfl) (by kernel_rfl) (r_seq (r_region' (l_o (o_box rfl rfl rfl ?_))))
 intro b1 w1 hzl1 hzr1 _ hb1 hE1
 have hbs_b1 : w.heap.size ≤ b1 := Nat.le_trans hsz hzl1
 replace hB := below_ext hB hE1 hsz
 replace hsz := Nat.le_trans hsz hE1.size
 refine l_q (qas rfl rfl) (l_q (qai rfl rfl) (l_nil (r_seq (r_region' (l_q (q_load_agg (n := 4) Tryz.isAgg52 Tryz.sizeOf52 rfl ((hb1.cells' (cs' := [_, _, _, _]) 0 4 rfl)) rfl rfl) (l_o (o_call Tryz.call19 rfl (hwork_ret sa sc sl ra rc rl ka kc kl ua uc ul _ (hla.below hB) hok) rfl ?_)))))))
 rintro _ w2 ⟨wb, m, rfl, hbw, hbm, hMw, hkw, hEw⟩
 have hbs_wb : w.heap.size ≤ wb := Nat.le_trans hsz hbw
 have hbs_m : w.heap.size ≤ m := Nat.le_trans hsz hbm
 replace hB := below_ext hB hEw hsz
 replace hb1 := hb1.ext hEw
 replace hsz := Nat.le_trans hsz hEw.size
 have hBE := Below.refl w2.heap.size w2
 have hszq : w2.heap.size ≤ w2.heap.size := Nat.le_refl _
 refine l_q (q_move (v := .tuple _) rfl rfl) (l_q (q_extract (vs := [_, _]) (v := .pointer _) rfl rfl rfl) (l_q (q_extract (vs := [_, _]) (v := .int _ _) rfl rfl rfl) (l_q (q_assign (v := .pointer _) rfl rfl) (l_q (qai rfl rfl) (l_nil (r_seq (r_seq (r_region' (l_q (qmi rfl rfl) (l_q (q_neq rfl rfl rfl) (l_nil ?_)))))))))))
 have hk3 : (!decide (0 = 0)) = false := by decide
 refine r_cond_f ((congrArg Value.bool hk3 : Value.bool _ = _)) (r_skip (r_seq (r_seq (r_region' (l_q (q_load_agg (n := 4) Tryz.isAgg52 Tryz.sizeOf52 rfl ((hb1.cells' (cs' := [_, _, _, _]) 0 4 rfl)) rfl rfl) (l_q (qmi rfl rfl) (l_q (qmi rfl rfl) (l_q (q_build (v := .agg ⟨[vint (i : Int), vint (i : Int)]⟩) (fun w => by kernel_rfl) rfl) (l_q (qmi rfl rfl) (l_q (qmi rfl rfl) (l_o (o_call Tryz.call20 rfl (asked_ret sa sc sl ra rc rl ka kc kl ua uc ul i i ki h _ hok hgi hgi hgk hgh) rfl ?_))))))))))))
 rintro _ w4 ⟨rfl, hE4⟩
 replace hB := below_ext hB hE4 hsz
 replace hb1 := hb1.ext hE4
 replace hBE := below_ext hBE hE4 hBE.size
 replace hszq := Nat.le_trans hszq hE4.size
 replace hsz := Nat.le_trans hsz hE4.size
 refine l_q (qai rfl rfl) (l_nil (r_forget [(1, .int _ _), (2, .int _ _), (3, .int _ _), (4, .pointer _), (10, .pointer _), (12, .int _ _)] ⟨rfl, rfl, rfl, rfl, rfl, rfl, trivial⟩ (fun e5 => (r_seq (r_region' (l_q (qmi rfl rfl) (l_q (q_eql rfl rfl rfl) (l_nil ?_))))))))
 have hk6 : (decide ((if i = i then 6 else 0 : Int) = 2)) = false := by rw [if_pos rfl]; decide
 refine r_cond_f ((congrArg Value.bool hk6 : Value.bool _ = _)) (r_skip (r_seq (r_region' (l_q (qas rfl rfl) (l_nil (r_seq (r_seq (r_region' (l_q (q_fieldAddr (o' := 0) rfl fld52_0 rfl) (l_q (q_load Tryz.isAgg47 rfl ((hb1.has (o := 0) rfl)) rfl) (l_q (q_len rfl Tryz.underlying47 rfl rfl) (l_q (qmi rfl rfl) (l_nil (r_block ?_))))))))))))))
 have hk0 := hkw.ext (Ext.of_below hBE)
 have hM := hMw.ext (Ext.of_below hBE)
 have hM0 := hM
 have hG0 := gm_refl m w4
 have hMemo : MemoR w4 sl rl [] := MemoR.nil
 have hmN := hM.lt
 have hW0 : w.heap.size ≤ w4.heap.size := hsz
 refine r_rounds (α := Nat × (Option Addr) × Nat × (List Int)) (fun ⟨q, oa, oc, X⟩ e wl => Knows e [(1, vint (i : Int)), (2, vint (ki : Int)), (3, vint (h : Int)), (10, ptr wb 0), (13, .slice oa X.length oc), (35, vint (sl.length : Int)), (36, vint (q : Int))] ∧ (q ≤ sl.length) ∧ (X = hrsF (fun q => canF sl rl kl ul i q ki h) q) ∧ (X.length ≤ q) ∧ (wl.ownsRow w4.heap.size 3 1 (.slice oa X.length oc) X.length (X.map vint)) ∧ (∃ es2 ck2, MapAt wl m es2 ck2 ∧ MemoR wl sl rl es2 ∧ AwayV (.slice oa X.length oc) es2) ∧ (w4.grownBy wl (some m)) ∧ (w.heap.size ≤ wl.heap.size) ∧ (Below w.heap.size w wl)) (fun ⟨q, oa, oc, X⟩ => sl.length - q) (0, none, 0, []) ?_ ?_
 ·
  exact ⟨⟨rfl, rfl, rfl, rfl, rfl, rfl, rfl, trivial⟩, (Nat.zero_le _), (by simp [hrsF]), (Nat.le_refl _), (World.ownsRow_nil _ _ _ _), ⟨_, _, hM, hMemo, awayV_nil⟩, hG0, hsz, hB⟩
 ·
  rintro ⟨q, oa, oc, X⟩ el7 wl7 ⟨hkn, hq2v, hX, hXl, hco, hM, hG0, hsz, hB⟩ ih7
  obtain ⟨e7, rfl⟩ := knows_env hkn
  obtain ⟨es2, ck2, hM, hMemo, hAV⟩ := hM
  refine r_seq (r_region' (l_q (q_lss rfl rfl rfl) (l_nil (r_seq (r_cond rfl (fun hc8 => ?_) (fun hc8 => ?_))))))
  ·
   replace hc8 := dt hc8
   have hgq : q < sl.length := by omega
   refine r_skip (r_seq (r_block (r_seq (r_region' (l_q (qmi rfl rfl) (l_q (qai rfl rfl) (l_nil (r_seq ?_))))))))
   have hlo := fun g hg => (hco.lt g hg).2
   refine r_region' (l_q (q_move (v := .pointer _) rfl rfl) (l_q (qmi rfl rfl) (l_q (qmi rfl rfl) (l_q (q_build (v := .agg ⟨[vint (i : Int), vint (q : Int)]⟩) (fun w => by kernel_rfl) rfl) (l_q (qmi rfl rfl) (l_q (qmi rfl rfl) (l_o (o_call Tryz.call23 rfl (can_ret sa sc sl ra rc rl ka kc kl ua uc ul wb m ck2 es2 i q ki h _ hok (hk0.gm hM0 hG0) hM hMemo hgi hgq hgk hgh) rfl ?_))))))))
   rintro _ w9 ⟨rfl, esc9, ckc9, hMc9, hMm9, hGc9, hAw9⟩
   have hwM9 := hAw9
   replace hB := below_upd_any hB hGc9 hbs_m hsz
   replace hsz : w.heap.size ≤ w9.heap.size := Nat.le_trans hsz hGc9.size
   replace hG0 := gm_upd hG0 hGc9 (by omega)
   replace hco := own_updlt hco hGc9 (by omega)
   have hM := hMc9
   have hMemo := hMm9
   refine l_nil (r_cond rfl (fun hc10 => ?_) (fun hc10 => ?_))
   ·
    have g45 := hc10
    replace hAV := awayV_call hAV hlo hwM9
    refine r_region' (l_q (qms rfl rfl) (l_q (qmi rfl rfl) (l_o (o_buildSlice (el := 3) (cs := [vint (q : Int)]) Tryz.underlying31 el3 (by decide) (by kernel_rfl) rfl (by decide) rfl ?_))))
    intro b11 w11 hzl11 hzr11 _ hb11 hE11 ho11
    have hbs_b11 : w.heap.size ≤ b11 := Nat.le_trans hsz hzl11
    replace hB := below_ext hB hE11 hsz
    replace hG0 := grown_trans hG0 (gm_ext hE11)
    replace hco := own_ext hco hE11
    replace hM := hM.keep (hE11.block m hM.lt (by simp))
    replace hMemo := hMemo.ext hE11
    replace hsz := Nat.le_trans hsz hE11.size
    refine l_o (o_append_at (f := vint) (X) ([(q : Int)]) Tryz.underlying31 el3 rfl rfl hco rfl (Row.of_owns ho11) (Nat.zero_lt_succ _) (fun _ => rfl) (by (try simp only [List.length_append, List.length_cons, List.length_nil]); omega) hG0.size rfl ?_)
    intro aq12 cq12 w12 hz12 ho12 hG12 hq12
    have hAVn := awayV_app hMemo hAV hq12
    replace hB := below_own hB hG12 hco (by omega) hsz
    replace hsz := Nat.le_trans hsz hG12.size
    replace hG0 := gm_own hG0 hco hG12 (Nat.le_refl _)
    replace hM := hM.own hco hG12
    replace hMemo := hMemo.grown hAV hG12
    replace hAV := hAVn
    refine l_q (qas rfl rfl) (l_nil (r_forget [(1, .int _ _), (2, .int _ _), (3, .int _ _), (10, .pointer _), (13, .slice _ _ _), (35, .int _ _), (36, .int _ _)] ⟨rfl, rfl, rfl, rfl, rfl, rfl, rfl, trivial⟩ (fun e13 => (r_inBlock (r_region' (l_q (q_add rfl rfl (by omega) rfl) (l_q (qmi rfl rfl) (l_nil ?_))))))))
    exact ih7 (q + 1, aq12, cq12, (X ++ [(q : Int)])) _ _ ⟨⟨rfl, rfl, rfl, rfl, rfl, rfl, (vint_eq (by omega)), trivial⟩, (by omega), (by rw [hX]; first | exact hrs_yes g45 | exact hrs_no g45), (by first | (rw [List.length_append]; simp only [List.length_cons, List.length_nil]; omega) | omega), ho12, ⟨_, _, hM, hMemo, hAV⟩, hG0, hsz, hB⟩ (by first | omega | (dsimp only; omega))
   ·
    have g45 := hc10
    replace hAV := awayV_call hAV hlo hwM9
    refine r_skip (r_inBlock (r_region' (l_q (q_add rfl rfl (by omega) rfl) (l_q (qmi rfl rfl) (l_nil (r_forget [(1, .int _ _), (2, .int _ _), (3, .int _ _), (10, .pointer _), (13, .slice _ _ _), (35, .int _ _), (36, .int _ _)] ⟨rfl, rfl, rfl, rfl, rfl, rfl, rfl, trivial⟩ (fun e14 => ?_)))))))
    exact ih7 (q + 1, oa, oc, X) _ _ ⟨⟨rfl, rfl, rfl, rfl, rfl, rfl, (vint_eq (by omega)), trivial⟩, (by omega), (by rw [hX]; first | exact hrs_yes g45 | exact hrs_no g45), (by first | (rw [List.length_append]; simp only [List.length_cons, List.length_nil]; omega) | omega), hco, ⟨_, _, hM, hMemo, hAV⟩, hG0, hsz, hB⟩ (by first | omega | (dsimp only; omega))
  ·
   replace hc8 := dlt hc8
   refine r_exit rfl (r_seq (r_region' (l_q (qms rfl rfl) (l_q (qas rfl rfl) (l_q (qai rfl rfl) (l_nil (r_ret_ (vs := [.slice _ _ _, .int _ _]) rfl Tryz.func74 rfl (.nil _) ⟨rfl, rfl, trivial⟩ ?_)))))))
   have hqe : q = sl.length := by omega
   subst hqe
   subst hX
   exact ⟨oa, oc, rfl, Row.of_owns hco, Ext.of_below hB⟩
end Go.Proofs.YtbikicakdkbcgacGreat
