/- Contracts. -/
import Derived.Test.YtbikicakdkbcgacGreatH3
import Derived.Test.YtbikicakdkbcgacGreatF12
set_option linter.unusedVariables false
set_option linter.unusedSimpArgs false
namespace Go.Proofs.YtbikicakdkbcgacGreat
open Go Go.RowKit Go.Gv Go.Fl

/-! ### A land at work: the ridges that block are remembered -/
structure HwH (w : World) (sa : Option Addr) (sc : Nat) (sl : List S4) (ra : Option Addr) (rc : Nat) (rl : List WL) (ka : Option Addr) (kc : Nat) (kl : List KV) (ua : Option Addr) (uc : Nat) (ul : List S3) (wb m : Nat) : Prop where
  blk : Blk w wb [.slice sa sl.length sc, .slice ra rl.length rc, .slice ka kl.length kc, .slice ua ul.length uc, .map (some m)]
  lan : LandAt w sa sc sl ra rc rl ka kc kl ua uc ul
section
variable {w w' : World} {sa ra ka ua : Option Addr} {sc rc kc uc wb m : Nat} {sl : List S4} {rl : List WL} {kl : List KV} {ul : List S3}
theorem HwH.ext (h : HwH w sa sc sl ra rc rl ka kc kl ua uc ul wb m) (hE : Ext w w') : HwH w' sa sc sl ra rc rl ka kc kl ua uc ul wb m := ⟨h.blk.ext hE, h.lan.ext hE⟩
theorem HwH.below (h : HwH w sa sc sl ra rc rl ka kc kl ua uc ul wb m) (hB : Below w.heap.size w w') : HwH w' sa sc sl ra rc rl ka kc kl ua uc ul wb m := h.ext (.of_below hB)
theorem HwH.gm {es : List MapEntry} {clock : Nat} (h : HwH w sa sc sl ra rc rl ka kc kl ua uc ul wb m) (hM : MapAt w m es clock) (hg : w.grownBy w' (some m)) : HwH w' sa sc sl ra rc rl ka kc kl ua uc ul wb m := ⟨h.blk.gm hM hg, h.lan.gm hM hg⟩
end
def rdgF (sl : List S4) (rl : List WL) (i j : Nat) : Bool := rl.any (fun k => blkF k (sl.getD i s40) (sl.getD j s40))
def mirF (a b : S4) (s : S3) : Int := if s.e * (b.x - a.x) + s.n * (b.y - a.y) < 0 then 2 else 1
def MemoR (w : World) (sl : List S4) (rl : List WL) (es : List MapEntry) : Prop := ∀ en ∈ es, ∃ (i j : Nat) (a : Option Addr) (c : Nat) (xs : List Int), en.key = .agg ⟨[vint (i : Int), vint (j : Int)]⟩ ∧ en.val = .slice a xs.length c ∧ Row w a xs.length c 1 (xs.map vint) ∧ decide (0 < xs.length) = rdgF sl rl i j
theorem hkey_inj {a b c d : Int} (h : Value.agg ⟨[vint a, vint b]⟩ = .agg ⟨[vint c, vint d]⟩) : a = c ∧ b = d := by
  simp only [vint, Value.agg.injEq, Array.mk.injEq, List.cons.injEq, Value.int.injEq, and_true, true_and] at h
  exact h
theorem hlTy : PairTy Tryz.prog 78 3 := ⟨⟨_, _, Tryz.underlying78, ⟨by decide, rfl, rfl⟩, ⟨by decide, rfl, rfl⟩⟩, ⟨_, Tryz.underlying3⟩, Tryz.isAgg3, Tryz.isAgg78, Tryz.sizeOf78, by kernel_rfl, by kernel_rfl, by kernel_rfl⟩
section
variable {w w' : World} {sl : List S4} {rl : List WL} {es es' : List MapEntry} {i j : Nat}
theorem MemoR.nil : MemoR w sl rl [] := fun _ h => by simp at h
theorem MemoR.ext (h : MemoR w sl rl es) (hE : Ext w w') : MemoR w' sl rl es := fun en hen => by
  obtain ⟨i, j, a, c, xs, h1, h2, h3, h4⟩ := h en hen
  exact ⟨i, j, a, c, xs, h1, h2, h3.ext hE, h4⟩
theorem MemoR.gm {m ck : Nat} {e0 : List MapEntry} (h : MemoR w sl rl es) (hM : MapAt w m e0 ck) (hg : w.grownBy w' (some m)) : MemoR w' sl rl es := fun en hen => by
  obtain ⟨i, j, a, c, xs, h1, h2, h3, h4⟩ := h en hen
  exact ⟨i, j, a, c, xs, h1, h2, h3.gm hM hg, h4⟩
theorem asks_hl (h : MemoR w sl rl es) (a b : Int) : Asks Tryz.prog 78 (.agg ⟨[vint a, vint b]⟩) es := fun en hen => by
  obtain ⟨c, d, _, _, _, h1, _⟩ := h en hen
  refine ⟨decide (a = (c : Int)) && decide (b = (d : Int)), fun w => by rw [h1]; exact hlTy.equal (d := 9998) _ _ _ _ w, ?_⟩
  rw [h1, Bool.and_eq_true, decide_eq_true_eq, decide_eq_true_eq]
  exact ⟨fun h => by rw [h.1, h.2], hkey_inj⟩
theorem hl_get {v : Value} {ok : Bool} (h : MemoR w sl rl es) (h1 : ok = true → ∃ en ∈ es, en.key = .agg ⟨[vint (i : Int), vint (j : Int)]⟩ ∧ en.val = v) (h2 : ok = false → v = .slice none 0 0 ∧ ∀ en ∈ es, en.key ≠ .agg ⟨[vint (i : Int), vint (j : Int)]⟩) :
    ∃ (a : Option Addr) (c : Nat) (xs : List Int), v = .slice a xs.length c ∧ (ok = true → Row w a xs.length c 1 (xs.map vint) ∧ decide (0 < xs.length) = rdgF sl rl i j ∧ ∃ en ∈ es, en.val = .slice a xs.length c) ∧ (ok = false → Value.slice a xs.length c = .slice none 0 0) := by
  cases ok with
  | true =>
    obtain ⟨en, hen, hk, rfl⟩ := h1 rfl
    obtain ⟨c, d, a, cc, xs, h3, h4, h5, h6⟩ := h en hen
    obtain ⟨h7, h8⟩ := hkey_inj (h3.symm.trans hk)
    obtain rfl : c = i := by omega
    obtain rfl : d = j := by omega
    exact ⟨a, cc, xs, h4, (fun _ => ⟨h5, h6, en, hen, h4⟩), fun h => by cases h⟩
  | false => exact ⟨none, 0, [], (h2 rfl).1, (fun h => by cases h), fun _ => rfl⟩
theorem hl_put {a : Option Addr} {c : Nat} {xs : List Int} (h : MemoR w sl rl es) (hin : ∀ en ∈ es', (en ∈ es) ∨ (en.key = .agg ⟨[vint (i : Int), vint (j : Int)]⟩ ∧ en.val = .slice a xs.length c)) (hr : Row w a xs.length c 1 (xs.map vint)) (hv : decide (0 < xs.length) = rdgF sl rl i j) : MemoR w sl rl es' := fun en hen => by
  rcases hin en hen with h1 | ⟨h1, h2⟩
  · exact h en h1
  · exact ⟨i, j, a, c, xs, h1, h2, hr, hv⟩
def AwayS (p : Nat) (a : Option Addr) (n : Nat) : Prop := 0 < n → ∀ x, a = some x → x.block ≠ p
/-- no row that is remembered lies in the block p -/
def Away (p : Nat) (es : List MapEntry) : Prop := ∀ en ∈ es, ∀ a n c, en.val = .slice a n c → AwayS p a n
theorem away_in {p : Nat} {a : Option Addr} {n c : Nat} (h : Away p es) (hm : ∃ en ∈ es, en.val = .slice a n c) : AwayS p a n := by
  obtain ⟨en, hen, hv⟩ := hm
  exact h en hen a n c hv
theorem row_lt2 {a : Option Addr} {c : Nat} {xs : List Int} (h : Row w a xs.length c 1 (xs.map vint)) (h0 : 0 < xs.length) : ∀ x, a = some x → x.block < w.heap.size := by
  intro x hx
  obtain ⟨_, _, h2⟩ := h
  rcases h2 with h3 | ⟨b, o, ha, hc⟩
  · have := congrArg List.length h3
    rw [List.length_map] at this
    exact absurd this (by simp only [List.length_nil]; omega)
  · rw [ha] at hx; cases hx
    cases xs with
    | nil => simp at h0
    | cons y l =>
      have h1 := hc 0 (vint y) rfl
      unfold Has World.cell? at h1
      cases h4 : w.heap[b]? with
      | none => simp [h4] at h1
      | some y => exact (Array.getElem?_eq_some_iff.1 h4).1
theorem away_new {p : Nat} (h : MemoR w sl rl es) (hp : w.heap.size ≤ p) : Away p es := fun en hen a n c hv h0 x hx => by
  obtain ⟨_, _, a2, c2, xs, _, h2, h3, _⟩ := h en hen
  rw [h2] at hv
  cases hv
  have := row_lt2 h3 h0 x hx
  omega
theorem away_own {p B el n : Nat} {a : Option Addr} {c : Nat} {cs : List Value} (h : w.ownsRow B el 1 (.slice a n c) n cs) (hp : p < B) : AwayS p a n := fun h0 x hx => by
  subst hx
  obtain ⟨h1, h2⟩ := h
  rcases h2 with h2 | ⟨g, cap, cur, h3, h4, h5, h6⟩
  · simp only [Value.slice.injEq] at h2
    omega
  · simp only [Value.slice.injEq, Option.some.injEq] at h3
    rw [h3.1]
    show g ≠ p
    omega
theorem away_put {kv : Value} {p B el n c : Nat} {a : Option Addr} {cs : List Value} {wq : World} (h : Away p es) (hin : ∀ en ∈ es', (en ∈ es) ∨ (en.key = kv ∧ en.val = .slice a n c)) (ho : wq.ownsRow B el 1 (.slice a n c) n cs) (hp : p < B) : Away p es' ∧ AwayS p a n :=
  ⟨fun en hen a2 n2 c2 hv => by
    rcases hin en hen with h1 | ⟨_, h2⟩
    · exact h en h1 a2 n2 c2 hv
    · rw [h2] at hv
      cases hv
      exact away_own ho hp, away_own ho hp⟩
theorem any_snoc {α : Type} {l : List α} {d : α} {p : α → Bool} {k : Nat} (hk : k < l.length) : (l.take (k + 1)).any p = ((l.take k).any p || p (l.getD k d)) := by
  rw [List.take_add_one, List.getElem?_eq_getElem hk, List.any_append, List.getD_eq_getElem?_getD, List.getElem?_eq_getElem hk]; simp
end
section
variable {P : Program} {ops : Array Oper} {e : Env} {w : World}
variable {d : Option Nat} {ty : TypeId} {pos : String} {af : Array Edge} {g : Option (Nat × Bool)}
theorem _root_.Go.Gv.MapAt.ext {w w' : World} {m ck : Nat} {es : List MapEntry} (h : MapAt w m es ck) (hE : Ext w w') : MapAt w' m es ck := h.keep (hE.block m h.lt (by simp))
theorem at1_same {w : World} {a : Option Addr} {n c b o i : Nat} {α : Type} {f : α → Value} {xs : List α} {x : α} (h : Row w a n c 1 (xs.map f)) (hx : xs[i]? = some x) (ha : a = some ⟨b, o, none⟩) : Has w b (o + i) (f x) := by
  obtain ⟨b', o', ha', hh⟩ := h.at1 i x hx
  rw [ha] at ha'
  cases ha'
  exact hh
theorem atN_same {w : World} {a : Option Addr} {n c sz b o i : Nat} {cs : List Value} (h : Row w a n c sz cs) (hp : 0 < sz) (hi : i < n) (ha : a = some ⟨b, o, none⟩) : Cells w b (o + i * sz) ((cs.drop (i * sz)).take sz) := by
  obtain ⟨b', o', ha', hh⟩ := h.at hp i hi
  rw [ha] at ha'
  cases ha'
  exact hh
theorem q_lookup_all {t kt el : TypeId} {fs : Array Field} {x y : Operand} {m clock : Nat} {es : List MapEntry} {kv z : Value} (ht : P.underlying t = some (.map kt el)) (hk : P.underlying kt = some (.struct fs)) (hz : ∀ w, (zeroValue el).run P w = .ok z w)
    (hx : ev e x = .map (some m)) (hy : ev e y = kv) (hck : ∀ em w, (Instr.checkKey em 10000 kt kv).run P w = .ok () w) (ha : Asks P kt kv es)
    (hw : wantedE ops e ⟨d, .lookup t x y true, ty, pos, af, g⟩ = true) :
    ∃ v ok, (∀ w', MapAt w' m es clock → QuietAt P ops e w' ⟨d, .lookup t x y true, ty, pos, af, g⟩ (.tuple ⟨[v, .bool ok]⟩)) ∧ (ok = true → ∃ en ∈ es, en.key = kv ∧ en.val = v) ∧ (ok = false → v = z ∧ ∀ en ∈ es, en.key ≠ kv) := by
  obtain ⟨r, hr, h1, h2⟩ := find_key hk es ha
  have hg : ∀ w', MapAt w' m es clock → (getObj m).run P w' = .ok (.map es.toArray clock) w' := fun w' hm => by
    have hm' : w'.heap[m]? = some (.map es.toArray clock) := hm
    simp [getObj, Sem.run, hm']
  cases r with
  | none =>
    refine ⟨z, false, fun w' hm => .inl ⟨hw, rfl, ?_⟩, (fun h => by cases h), fun _ => ⟨rfl, h2 rfl⟩⟩
    simp [execOp, Instr.lookup, run_underlying ht, hx, hy, hg w' hm, hck, hr, hz]
  | some p =>
    obtain ⟨j, v⟩ := p
    obtain ⟨en, h3, h4, h5⟩ := h1 j v rfl
    refine ⟨v, true, fun w' hm => .inl ⟨hw, rfl, ?_⟩, (fun _ => ⟨en, List.mem_of_getElem? h3, h4, h5⟩), fun h => by cases h⟩
    simp [execOp, Instr.lookup, run_underlying ht, hx, hy, hg w' hm, hck, hr]
theorem m_look {Cls : World → World → Prop} {eff : List Nat} {K : Env → World → Prop} {i : Nat} {l : List Nat} {t kt el : TypeId} {fs : Array Field} {x y : Operand} {m clock : Nat} {es : List MapEntry} {kv z : Value}
    (ho : ops[i]? = some ⟨d, .lookup t x y true, ty, pos, af, g⟩) (hi : eff.contains i = false) (ht : P.underlying t = some (.map kt el)) (hk : P.underlying kt = some (.struct fs)) (hz : ∀ w, (zeroValue el).run P w = .ok z w)
    (hx : ev e x = .map (some m)) (hy : ev e y = kv) (hm : ∀ w', Cls w w' → MapAt w' m es clock) (hck : ∀ em w, (Instr.checkKey em 10000 kt kv).run P w = .ok () w) (ha : Asks P kt kv es)
    (hw : wantedE ops e ⟨d, .lookup t x y true, ty, pos, af, g⟩ = true)
    (h : ∀ v ok, (ok = true → ∃ en ∈ es, en.key = kv ∧ en.val = v) → (ok = false → v = z ∧ ∀ en ∈ es, en.key ≠ kv) → Mix P ops Cls eff K l (updo e d (.tuple ⟨[v, .bool ok]⟩)) w) : Mix P ops Cls eff K (i :: l) e w := by
  obtain ⟨v, ok, hq, hA, hB⟩ := q_lookup_all (clock := clock) (d := d) (ty := ty) (pos := pos) (af := af) (g := g) ht hk hz hx hy hck ha hw
  exact m_q ho hi (fun w' hc => hq w' (hm w' hc)) (h v ok hA hB)
end

theorem okRg_wl {s : WL} (h : okRg s = true) : okWl s = true := by unfold okRg at h; exact (Bool.and_eq_true_iff.1 h).1
theorem rdg_yes {rl : List WL} {a b : S4} {X : List Int} {k : Nat} {x : Int} (hk : k < rl.length) (h : blkF (rl.getD k wl0) a b = true) : decide (0 < (X ++ [x]).length) = (rl.take (k + 1)).any (fun k => blkF k a b) := by
  rw [any_snoc (d := wl0) hk, h, Bool.or_true, List.length_append]; exact decide_eq_true (by simp)
theorem rdg_no {rl : List WL} {a b : S4} {X : List Int} {k : Nat} (hk : k < rl.length) (h : blkF (rl.getD k wl0) a b = false) (hX : decide (0 < X.length) = (rl.take k).any (fun k => blkF k a b)) : decide (0 < X.length) = (rl.take (k + 1)).any (fun k => blkF k a b) := by
  rw [any_snoc (d := wl0) hk, h, Bool.or_false]; exact hX

theorem fld78_0 (w : World) (b o : Nat) : (Instr.fieldAt 78 (ptr b o) 0).run Tryz.prog w = .ok (ptr b (o + 0)) w := by
  simp [Instr.fieldAt, run_underlying Tryz.underlying78, fieldPlace, Instr.sureAddr, Tryz.sizeOf3, Addr.add_lit]
theorem fld78_1 (w : World) (b o : Nat) : (Instr.fieldAt 78 (ptr b o) 1).run Tryz.prog w = .ok (ptr b (o + 1)) w := by
  simp [Instr.fieldAt, run_underlying Tryz.underlying78, fieldPlace, Instr.sureAddr, Tryz.sizeOf3, Addr.add_lit]
theorem fld99_0 (w : World) (b o : Nat) : (Instr.fieldAt 99 (ptr b o) 0).run Tryz.prog w = .ok (ptr b (o + 0)) w := by
  simp [Instr.fieldAt, run_underlying Tryz.underlying99, fieldPlace, Instr.sureAddr, Tryz.sizeOf52, Addr.add_lit]
theorem fld99_1 (w : World) (b o : Nat) : (Instr.fieldAt 99 (ptr b o) 1).run Tryz.prog w = .ok (ptr b (o + 4)) w := by
  simp [Instr.fieldAt, run_underlying Tryz.underlying99, fieldPlace, Instr.sureAddr, Tryz.sizeOf97, Addr.add_lit]
theorem hwork_ret (sa : Option Addr) (sc : Nat) (sl : List S4) (ra : Option Addr) (rc : Nat) (rl : List WL) (ka : Option Addr) (kc : Nat) (kl : List KV) (ua : Option Addr) (uc : Nat) (ul : List S3) (w : World) (hla : LandAt w sa sc sl ra rc rl ka kc kl ua uc ul) (hok : OkL sl rl kl ul) : Ret Tryz.prog 19 [.agg ⟨[.slice sa sl.length sc, .slice ra rl.length rc, .slice ka kl.length kc, .slice ua ul.length uc]⟩] w (fun v w' => ∃ wb m, v = .tuple ⟨[ptr wb 0, vint 0]⟩ ∧ w.heap.size ≤ wb ∧ w.heap.size ≤ m ∧ MapAt w' m [] 0 ∧ HwH w' sa sc sl ra rc rl ka kc kl ua uc ul wb m ∧ Ext w w') := by
 have hB := Below.refl w.heap.size w
 have hsz : w.heap.size ≤ w.heap.size := Nat.le_refl _
 refine ret_of_runs (args := [_]) Tryz.func19 rfl (Nat.le_of_ble_eq_true rfl) (by kernel_rfl) (r_seq (r_region' (l_o (o_box rfl rfl rfl ?_))))
 intro b1 w1 hzl1 hzr1 _ hb1 hE1
 have hbs_b1 : w.heap.size ≤ b1 := Nat.le_trans hsz hzl1
 replace hB := below_ext hB hE1 hsz
 replace hsz := Nat.le_trans hsz hE1.size
 refine l_q (q_assign (v := .pointer none) rfl rfl) (l_q (qai rfl rfl) (l_nil (r_seq (r_seq (r_region' (l_q (q_load_agg (n := 4) Tryz.isAgg52 Tryz.sizeOf52 rfl ((hb1.cells' (cs' := [_, _, _, _]) 0 4 rfl)) rfl rfl) (l_o (o_call Tryz.call32 rfl (checkLand_ret sa sc sl ra rc rl ka kc kl ua uc ul _ (hla.below hB) hok) rfl ?_))))))))
 rintro _ w2 ⟨rfl, hE2⟩
 replace hB := below_ext hB hE2 hsz
 replace hb1 := hb1.ext hE2
 replace hsz := Nat.le_trans hsz hE2.size
 refine l_q (qai rfl rfl) (l_nil (r_seq (r_region' (l_q (qmi rfl rfl) (l_q (q_neq rfl rfl rfl) (l_nil ?_))))))
 have hk3 : (!decide (0 = 0)) = false := by decide
 refine r_cond_f ((congrArg Value.bool hk3 : Value.bool _ = _)) (r_skip (r_seq (r_region' (l_q (q_load_agg (n := 4) Tryz.isAgg52 Tryz.sizeOf52 rfl ((hb1.cells' (cs' := [_, _, _, _]) 0 4 rfl)) rfl rfl) (l_o (o_makeMap rfl ?_))))))
 intro m w4 hml hmr hM hE4
 have hbs_m : w.heap.size ≤ m := Nat.le_trans hsz hml
 replace hB := below_ext hB hE4 hsz
 replace hsz := Nat.le_trans hsz hE4.size
 refine l_q (q_build (v := .agg ⟨[.slice sa sl.length sc, .slice ra rl.length rc, .slice ka kl.length kc, .slice ua ul.length uc, .map (some m)]⟩) (fun w => by kernel_rfl) rfl) (l_o (o_box rfl rfl rfl ?_))
 intro b5 w5 hzl5 hzr5 _ hb5 hE5
 have hbs_b5 : w.heap.size ≤ b5 := Nat.le_trans hsz hzl5
 replace hB := below_ext hB hE5 hsz
 replace hM := hM.keep (hE5.block m hM.lt (by simp))
 replace hsz := Nat.le_trans hsz hE5.size
 refine l_q (q_assign (v := .pointer _) rfl rfl) (l_q (qai rfl rfl) (l_nil (r_forget [(2, .pointer _), (3, .int _ _)] ⟨rfl, rfl, trivial⟩ (fun e6 => (r_ret_ (vs := [.pointer _, .int _ _]) rfl Tryz.func19 rfl (.nil _) ⟨rfl, rfl, trivial⟩ ?_)))))
 exact ⟨b5, m, rfl, hbs_b5, hbs_m, hM, ⟨hb5, hla.below hB⟩, Ext.of_below hB⟩
theorem asked_ret (sa : Option Addr) (sc : Nat) (sl : List S4) (ra : Option Addr) (rc : Nat) (rl : List WL) (ka : Option Addr) (kc : Nat) (kl : List KV) (ua : Option Addr) (uc : Nat) (ul : List S3) (i j k h : Nat) (w : World) (hok : OkL sl rl kl ul) (hgi : i < sl.length) (hgj : j < sl.length) (hgk : k < kl.length) (hgh : h < ul.length) : Ret Tryz.prog 20 [.agg ⟨[.slice sa sl.length sc, .slice ra rl.length rc, .slice ka kl.length kc, .slice ua ul.length uc]⟩, .agg ⟨[vint (i : Int), vint (j : Int)]⟩, vint (k : Int), vint (h : Int)] w (fun v w' => v = vint (if i = j then 6 else 0) ∧ Ext w w') := by
 have hs6 := hok.s6
 have hr6 := hok.r6
 have hk4 := hok.k4
 have hu12 := hok.u12
 have hs0 := hok.s0
 have hk0 := hok.k0
 have hu0 := hok.u0
 have hB := Below.refl w.heap.size w
 have hsz : w.heap.size ≤ w.heap.size := Nat.le_refl _
 refine ret_of_runs (args := [_, _, _, _]) Tryz.func20 rfl (Nat.le_of_ble_eq_true rfl) (by kernel_rfl) (r_seq (r_region' (l_o (o_box rfl rfl rfl ?_))))
 intro b1 w1 hzl1 hzr1 _ hb1 hE1
 have hbs_b1 : w.heap.size ≤ b1 := Nat.le_trans hsz hzl1
 replace hB := below_ext hB hE1 hsz
 replace hsz := Nat.le_trans hsz hE1.size
 refine l_o (o_box rfl rfl rfl ?_)
 intro b2 w2 hzl2 hzr2 _ hb2 hE2
 have hbs_b2 : w.heap.size ≤ b2 := Nat.le_trans hsz hzl2
 replace hB := below_ext hB hE2 hsz
 replace hb1 := hb1.ext hE2
 replace hsz := Nat.le_trans hsz hE2.size
 refine l_q (qai rfl rfl) (l_nil (r_seq (r_region' (l_q (q_fieldAddr (o' := 0) rfl fld52_0 rfl) (l_q (q_load Tryz.isAgg47 rfl ((hb1.has (o := 0) rfl)) rfl) (l_q (q_len rfl Tryz.underlying47 rfl rfl) (l_q (q_sub rfl rfl (by omega) rfl) (l_q (qai rfl rfl) (l_nil (r_seq (r_block (r_seq (r_region' (l_q (q_fieldAddr (o' := 0) rfl fld78_0 rfl) (l_q (q_load Tryz.isAgg3 rfl ((hb2.has (o := 0) rfl)) rfl) (l_q (qmi rfl rfl) (l_o (o_call Tryz.call33 rfl (hwithin_ret _ _ _ _) rfl ?_))))))))))))))))))
 rintro _ w3 ⟨rfl, rfl⟩
 refine l_q (q_not rfl rfl) (l_q (qmb rfl rfl) ?_)
 have hk4 : (!(decide (0 ≤ (i : Int)) && decide ((i : Int) ≤ ((sl.length : Int) - 1)))) = false := by rw [Bool.not_eq_false', Bool.and_eq_true, decide_eq_true_eq, decide_eq_true_eq]; omega
 refine l_part 20 rfl (fun hx => absurd (hk4.symm.trans hx) (by decide)) (fun _ => (l_q (q_fieldAddr (o' := 1) rfl fld78_1 rfl) (l_q (q_load Tryz.isAgg3 rfl ((hb2.has (o := 1) rfl)) rfl) (l_q (qmi rfl rfl) (l_o (o_call Tryz.call33 rfl (hwithin_ret _ _ _ _) rfl ?_))))))
 rintro _ w5 ⟨rfl, rfl⟩
 refine l_q (q_not rfl rfl) (l_q (q_pick_f (v := .bool _) rfl rfl rfl) (l_q (qmb rfl rfl) ?_))
 have hk6 : (!(decide (0 ≤ (j : Int)) && decide ((j : Int) ≤ ((sl.length : Int) - 1)))) = false := by rw [Bool.not_eq_false', Bool.and_eq_true, decide_eq_true_eq, decide_eq_true_eq]; omega
 refine l_part 27 rfl (fun hx => absurd (hk6.symm.trans hx) (by decide)) (fun _ => (l_q (qmi rfl rfl) (l_q (q_fieldAddr (o' := 2) rfl fld52_2 rfl) (l_q (q_load Tryz.isAgg49 rfl ((hb1.has (o := 2) rfl)) rfl) (l_q (q_len rfl Tryz.underlying49 rfl rfl) (l_q (q_sub rfl rfl (by omega) rfl) (l_o (o_call Tryz.call33 rfl (hwithin_ret _ _ _ _) rfl ?_))))))))
 rintro _ w7 ⟨rfl, rfl⟩
 refine l_q (q_not rfl rfl) (l_q (q_pick_f (v := .bool _) rfl rfl rfl) (l_q (qmb rfl rfl) ?_))
 have hk8 : (!(decide (0 ≤ (k : Int)) && decide ((k : Int) ≤ ((kl.length : Int) - 1)))) = false := by rw [Bool.not_eq_false', Bool.and_eq_true, decide_eq_true_eq, decide_eq_true_eq]; omega
 refine l_part 36 rfl (fun hx => absurd (hk8.symm.trans hx) (by decide)) (fun _ => (l_q (qmi rfl rfl) (l_q (q_fieldAddr (o' := 3) rfl fld52_3 rfl) (l_q (q_load Tryz.isAgg50 rfl ((hb1.has (o := 3) rfl)) rfl) (l_q (q_len rfl Tryz.underlying50 rfl rfl) (l_q (q_sub rfl rfl (by omega) rfl) (l_o (o_call Tryz.call33 rfl (hwithin_ret _ _ _ _) rfl ?_))))))))
 rintro _ w9 ⟨rfl, rfl⟩
 refine l_q (q_not rfl rfl) (l_q (q_pick_f (v := .bool _) rfl rfl rfl) (l_q (qab rfl rfl) (l_nil (r_forget [(5, .pointer _), (14, .bool _)] ⟨rfl, rfl, trivial⟩ (fun e10 => ?_)))))
 have hk11 : (!(decide (0 ≤ (h : Int)) && decide ((h : Int) ≤ ((ul.length : Int) - 1)))) = false := by rw [Bool.not_eq_false', Bool.and_eq_true, decide_eq_true_eq, decide_eq_true_eq]; omega
 refine r_cond_f ((congrArg Value.bool hk11 : Value.bool _ = _)) (r_seq (r_region' (l_q (q_fieldAddr (o' := 0) rfl fld78_0 rfl) (l_q (q_load Tryz.isAgg3 rfl ((hb2.has (o := 0) rfl)) rfl) (l_q (q_fieldAddr (o' := 1) rfl fld78_1 rfl) (l_q (q_load Tryz.isAgg3 rfl ((hb2.has (o := 1) rfl)) rfl) (l_q (q_eql rfl rfl rfl) (l_q (qab rfl rfl) (l_nil (r_cond rfl (fun hc12 => ?_) (fun hc12 => ?_)))))))))))
 ·
  replace hc12 := dt hc12
  have g45 := hc12
  refine r_seq (r_region' (l_q (qai rfl rfl) (l_nil (r_ret_ (vs := [.int _ _]) rfl Tryz.func20 rfl (.nil _) ⟨rfl, trivial⟩ ?_))))
  exact ⟨vint_eq (by first | rw [if_pos (by omega)] | rw [if_neg (by omega)]), Ext.of_below hB⟩
 ·
  replace hc12 := df hc12
  have g45 := hc12
  refine r_skip (r_inBlock (r_seq (r_region' (l_q (qai rfl rfl) (l_nil (r_ret_ (vs := [.int _ _]) rfl Tryz.func20 rfl (.nil _) ⟨rfl, trivial⟩ ?_))))))
  exact ⟨vint_eq (by first | rw [if_pos (by omega)] | rw [if_neg (by omega)]), Ext.of_below hB⟩
theorem mirrors_ret (sa : Option Addr) (sc : Nat) (sl : List S4) (ra : Option Addr) (rc : Nat) (rl : List WL) (ka : Option Addr) (kc : Nat) (kl : List KV) (ua : Option Addr) (uc : Nat) (ul : List S3) (wb m : Nat) (i j h : Nat) (w : World) (hok : OkL sl rl kl ul) (hk : HwH w sa sc sl ra rc rl ka kc kl ua uc ul wb m) (hgi : i < sl.length) (hgj : j < sl.length) (hgh : h < ul.length) : Ret Tryz.prog 69 [ptr wb 0, .agg ⟨[vint (i : Int), vint (j : Int)]⟩, vint (h : Int)] w (fun v w' => v = vint (mirF (sl.getD i s40) (sl.getD j s40) (ul.getD h s30)) ∧ Ext w w') := by
 have hs6 := hok.s6
 have hr6 := hok.r6
 have hk4 := hok.k4
 have hu12 := hok.u12
 have hs0 := hok.s0
 have hk0 := hok.k0
 have hu0 := hok.u0
 have hwbl := hk.blk.lt
 have hpi := of_decide_eq_true (hok.st i hgi)
 have hpj := of_decide_eq_true (hok.st j hgj)
 have hph := of_decide_eq_true (hok.su h hgh)
 have hm1 := mulb (a := (ul.getD h s30).e) (b := (sl.getD j s40).x - (sl.getD i s40).x) (by omega) (by omega)
 have hm2 := mulb (a := (ul.getD h s30).n) (b := (sl.getD j s40).y - (sl.getD i s40).y) (by omega) (by omega)
 have hB := Below.refl w.heap.size w
 have hsz : w.heap.size ≤ w.heap.size := Nat.le_refl _
 refine ret_of_runs (args := [_, _, _]) Tryz.func69 rfl (Nat.le_of_ble_eq_true rfl) (by kernel_rfl) (r_seq (r_region' (l_o (o_box rfl rfl rfl ?_))))
 intro b1 w1 hzl1 hzr1 _ hb1 hE1
 have hne_wb_b1 : wb ≠ b1 := by have := hk.blk.lt; omega
 have hbs_b1 : w.heap.size ≤ b1 := Nat.le_trans hsz hzl1
 replace hB := below_ext hB hE1 hsz
 replace hsz := Nat.le_trans hsz hE1.size
 refine l_q (qai rfl rfl) (l_nil (r_seq (r_ifj (α := Nat × Nat × Nat) (fun ⟨q7, q8, q9⟩ e wl => Knows e [(7, ptr q7 0), (8, ptr q8 0), (9, ptr q9 0)] ∧ (Blk wl q7 [vint ((sl.getD i s40).x), vint ((sl.getD i s40).y), vint ((sl.getD i s40).z), vint ((sl.getD i s40).m)]) ∧ (Blk wl q8 [vint ((sl.getD j s40).x), vint ((sl.getD j s40).y), vint ((sl.getD j s40).z), vint ((sl.getD j s40).m)]) ∧ (Blk wl q9 [vint ((ul.getD h s30).e), vint ((ul.getD h s30).n), vint ((ul.getD h s30).u)]) ∧ (Blk wl b1 [vint (i : Int), vint (j : Int)]) ∧ (w.heap.size ≤ wl.heap.size) ∧ (Below w.heap.size w wl)) ?_ ?_)))
 ·
  rintro ⟨q7, q8, q9⟩ el2 wl2 ⟨hkn, hq7, hq8, hq9, hb1, hsz, hB⟩
  obtain ⟨e2, rfl⟩ := knows_env hkn
  refine r_seq (r_seq (r_region' (l_q (q_fieldAddr (o' := 0) rfl fld73_0 rfl) (l_q (q_load Tryz.isAgg3 rfl ((hq9.has (o := 0) rfl)) rfl) (l_q (q_fieldAddr (o' := 0) rfl fld72_0 rfl) (l_q (q_load Tryz.isAgg3 rfl ((hq8.has (o := 0) rfl)) rfl) (l_q (q_fieldAddr (o' := 0) rfl fld72_0 rfl) (l_q (q_load Tryz.isAgg3 rfl ((hq7.has (o := 0) rfl)) rfl) (l_q (q_sub rfl rfl (by omega) rfl) (l_q (q_mul rfl rfl (by omega) rfl) (l_q (q_fieldAddr (o' := 1) rfl fld73_1 rfl) (l_q (q_load Tryz.isAgg3 rfl ((hq9.has (o := 1) rfl)) rfl) (l_q (q_fieldAddr (o' := 1) rfl fld72_1 rfl) (l_q (q_load Tryz.isAgg3 rfl ((hq8.has (o := 1) rfl)) rfl) (l_q (q_fieldAddr (o' := 1) rfl fld72_1 rfl) (l_q (q_load Tryz.isAgg3 rfl ((hq7.has (o := 1) rfl)) rfl) (l_q (q_sub rfl rfl (by omega) rfl) (l_q (q_mul rfl rfl (by omega) rfl) (l_q (q_add rfl rfl (by omega) rfl) (l_q (q_lss rfl rfl rfl) (l_nil ?_)))))))))))))))))))))
  refine r_forget [(53, .bool _)] ⟨rfl, trivial⟩ (fun e3 => (r_cond rfl (fun hc4 => ?_) (fun hc4 => ?_)))
  ·
   replace hc4 := dt hc4
   refine r_seq (r_region' (l_q (qai rfl rfl) (l_nil (r_ret_ (vs := [.int _ _]) rfl Tryz.func69 rfl (.nil _) ⟨rfl, trivial⟩ ?_))))
   exact ⟨vint_eq (by unfold mirF; first | rw [if_pos (by omega)] | rw [if_neg (by omega)]), Ext.of_below hB⟩
  ·
   replace hc4 := dlt hc4
   refine r_skip (r_seq (r_region' (l_q (qai rfl rfl) (l_nil (r_ret_ (vs := [.int _ _]) rfl Tryz.func69 rfl (.nil _) ⟨rfl, trivial⟩ ?_)))))
   exact ⟨vint_eq (by unfold mirF; first | rw [if_pos (by omega)] | rw [if_neg (by omega)]), Ext.of_below hB⟩
 · intro hj2
   have hszR : w.heap.size ≤ w1.heap.size := hsz
   have hszW : w1.heap.size ≤ w1.heap.size := Nat.le_refl _
   have hltR_wb := (hk.blk.below hB (by omega)).lt
   have hltR_b1 := hb1.lt
   refine r_draw3 (Below.refl w1.heap.size) (fun _ _ _ h1 h2 => h1.trans h2) (.op 0 (.op 5 (.op 9 (.op 14 (.op 18 (.op 23 (.op 1 (.op 6 (.op 10 (.op 15 (.op 19 (.op 2 (.op 11 (.op 20 (.op 3 (.op 12 (.op 21 (.op 4 (.op 13 (.op 22 (.op 7 (.op 16 (.op 24 (.op 8 (.op 17 (.op 25 (.fork 28 (.fork 27 (.op 26 (.op 29 (.op 30 (.op 31 (.done))))) (.op 26 (.op 27 (.op 29 (.op 30 (.op 31 (.done))))))) (.fork 27 (.fork 28 (.op 26 (.op 29 (.op 30 (.op 31 (.done))))) (.op 26 (.op 28 (.op 29 (.op 30 (.op 31 (.done))))))) (.op 26 (.fork 28 (.op 27 (.op 29 (.op 30 (.op 31 (.done))))) (.op 27 (.op 28 (.op 29 (.op 30 (.op 31 (.done)))))))))))))))))))))))))))))))))))) [26, 27, 28, 29, 30, 31, 1031] 40 (by kernel_rfl) (by kernel_rfl) ?_
   intro w5 _ hE5
   replace hB := below_ext hB hE5 hsz
   replace hb1 := hb1.ext hE5
   replace hszW := Nat.le_trans hszW hE5.size
   replace hsz := Nat.le_trans hsz hE5.size
   refine m_q3 rfl rfl (fun w' hC' => q_move (v := .pointer _) rfl rfl) (m_q3 rfl rfl (fun w' hC' => q_fieldAddr (o' := 0) rfl fld78_0 rfl) (m_q3 rfl rfl (fun w' hC' => q_move (v := .pointer _) rfl rfl) (m_q3 rfl rfl (fun w' hC' => q_fieldAddr (o' := 1) rfl fld78_1 rfl) (m_q3 rfl rfl (fun w' hC' => q_move (v := .pointer _) rfl rfl) (m_q3 rfl rfl (fun w' hC' => qmi rfl rfl) (m_q3 rfl rfl (fun w' hC' => q_nilCheck rfl rfl) (m_q3 rfl rfl (fun w' hC' => q_load Tryz.isAgg3 rfl (((hb1.keep (hC'.block _ hltR_b1)).has (o := 0) rfl)) rfl) (m_q3 rfl rfl (fun w' hC' => q_nilCheck rfl rfl) (m_q3 rfl rfl (fun w' hC' => q_load Tryz.isAgg3 rfl (((hb1.keep (hC'.block _ hltR_b1)).has (o := 1) rfl)) rfl) (m_q3 rfl rfl (fun w' hC' => q_nilCheck rfl rfl) (m_q3 rfl rfl (fun w' hC' => q_fieldAddr (o' := 0) rfl fld99_0 rfl) (m_q3 rfl rfl (fun w' hC' => q_fieldAddr (o' := 0) rfl fld99_0 rfl) ?_))))))))))))
   refine m_q3 rfl rfl (fun w' hC' => q_fieldAddr (o' := 0) rfl fld99_0 rfl) (m_q3 rfl rfl (fun w' hC' => q_fieldAddr (o' := 0) rfl fld52_0 rfl) (m_q3 rfl rfl (fun w' hC' => q_fieldAddr (o' := 0) rfl fld52_0 rfl) (m_q3 rfl rfl (fun w' hC' => q_fieldAddr (o' := 3) rfl fld52_3 rfl) (m_q3 rfl rfl (fun w' hC' => q_load Tryz.isAgg47 rfl (((hk.blk.below (hB.trans (hC'.mono hszR)) (by omega)).has (o := 0) rfl)) rfl) (m_q3 rfl rfl (fun w' hC' => q_load Tryz.isAgg47 rfl (((hk.blk.below (hB.trans (hC'.mono hszR)) (by omega)).has (o := 0) rfl)) rfl) (m_q3 rfl rfl (fun w' hC' => q_load Tryz.isAgg50 rfl (((hk.blk.below (hB.trans (hC'.mono hszR)) (by omega)).has (o := 3) rfl)) rfl) ?_))))))
   obtain ⟨b6, o6, ha6, hh6⟩ := (hk.lan.rs.below hB).at (by decide) i (by omega)
   refine m_q3 rfl rfl (fun w' hC' => q_indexAddr Tryz.underlying47 Tryz.sizeOf72 rfl ha6 rfl (by omega) rfl) ?_
   obtain ⟨b7, o7, ha7, hh7⟩ := (hk.lan.rs.below hB).at (by decide) j (by omega)
   refine m_q3 rfl rfl (fun w' hC' => q_indexAddr Tryz.underlying47 Tryz.sizeOf72 rfl ha7 rfl (by omega) rfl) ?_
   obtain ⟨b8, o8, ha8, hh8⟩ := (hk.lan.ru.below hB).at (by decide) h (by omega)
   refine m_q3 rfl rfl (fun w' hC' => q_indexAddr Tryz.underlying50 Tryz.sizeOf73 rfl ha8 rfl (by omega) rfl) (m_q3 rfl rfl (fun w' hC' => q_load_agg (cs := [vint (((sl).getD i s40).x), vint (((sl).getD i s40).y), vint (((sl).getD i s40).z), vint (((sl).getD i s40).m)]) (n := 4) Tryz.isAgg72 Tryz.sizeOf72 rfl ((cells_cast (wide_at S4.len s40 _ _ (by omega)) (atN_same (hk.lan.rs.below (hB.trans (hC'.mono hszR))) (by decide) (by omega) ha6))) rfl rfl) (m_q3 rfl rfl (fun w' hC' => q_load_agg (cs := [vint (((sl).getD j s40).x), vint (((sl).getD j s40).y), vint (((sl).getD j s40).z), vint (((sl).getD j s40).m)]) (n := 4) Tryz.isAgg72 Tryz.sizeOf72 rfl ((cells_cast (wide_at S4.len s40 _ _ (by omega)) (atN_same (hk.lan.rs.below (hB.trans (hC'.mono hszR))) (by decide) (by omega) ha7))) rfl rfl) ?_))
   refine m_q3 rfl rfl (fun w' hC' => q_load_agg (cs := [vint (((ul).getD h s30).e), vint (((ul).getD h s30).n), vint (((ul).getD h s30).u)]) (n := 3) Tryz.isAgg73 Tryz.sizeOf73 rfl ((cells_cast (wide_at S3.len s30 _ _ (by omega)) (atN_same (hk.lan.ru.below (hB.trans (hC'.mono hszR))) (by decide) (by omega) ha8))) rfl rfl) (m_fork3 ?_ ?_)
   ·
    refine m_o3 rfl rfl (o_alloc Tryz.zeroValue73 rfl rfl ?_)
    intro b9 w9 hzl9 hzr9 _ hb9 hE9
    refine ⟨(below_ext_of hE9 hszW), ?_⟩
    have hne_wb_b9 : wb ≠ b9 := by have := hk.blk.lt; omega
    have hne_b1_b9 : b1 ≠ b9 := by have := hb1.lt; omega
    have hbs_b9 : w.heap.size ≤ b9 := Nat.le_trans hsz hzl9
    have hWp_b9 := hszW
    have hbW_b9 := Nat.le_trans hszW hzl9
    replace hB := below_ext hB hE9 hsz
    replace hb1 := hb1.ext hE9
    replace hszW := Nat.le_trans hszW hE9.size
    replace hsz := Nat.le_trans hsz hE9.size
    refine m_fork3 ?_ ?_
    ·
     refine m_o3 rfl rfl (o_alloc Tryz.zeroValue72 rfl rfl ?_)
     intro b10 w10 hzl10 hzr10 _ hb10 hE10
     refine ⟨(below_ext_of hE10 hszW), ?_⟩
     have hne_wb_b10 : wb ≠ b10 := by have := hk.blk.lt; omega
     have hne_b1_b10 : b1 ≠ b10 := by have := hb1.lt; omega
     have hne_b9_b10 : b9 ≠ b10 := by have := hb9.lt; omega
     have hbs_b10 : w.heap.size ≤ b10 := Nat.le_trans hsz hzl10
     have hWp_b10 := hszW
     have hbW_b10 := Nat.le_trans hszW hzl10
     replace hB := below_ext hB hE10 hsz
     replace hb1 := hb1.ext hE10
     replace hszW := Nat.le_trans hszW hE10.size
     replace hb9 := hb9.ext hE10
     replace hsz := Nat.le_trans hsz hE10.size
     refine m_o3 rfl rfl (o_alloc Tryz.zeroValue72 rfl rfl ?_)
     intro b11 w11 hzl11 hzr11 _ hb11 hE11
     refine ⟨(below_ext_of hE11 hszW), ?_⟩
     have hne_wb_b11 : wb ≠ b11 := by have := hk.blk.lt; omega
     have hne_b1_b11 : b1 ≠ b11 := by have := hb1.lt; omega
     have hne_b9_b11 : b9 ≠ b11 := by have := hb9.lt; omega
     have hne_b10_b11 : b10 ≠ b11 := by have := hb10.lt; omega
     have hbs_b11 : w.heap.size ≤ b11 := Nat.le_trans hsz hzl11
     have hWp_b11 := hszW
     have hbW_b11 := Nat.le_trans hszW hzl11
     replace hB := below_ext hB hE11 hsz
     replace hb1 := hb1.ext hE11
     replace hszW := Nat.le_trans hszW hE11.size
     replace hb9 := hb9.ext hE11
     replace hb10 := hb10.ext hE11
     replace hsz := Nat.le_trans hsz hE11.size
     refine m_o3 rfl rfl (o_store (vs := [vint (((sl).getD i s40).x), vint (((sl).getD i s40).y), vint (((sl).getD i s40).z), vint (((sl).getD i s40).m)]) (cs' := [vint (((sl).getD i s40).x), vint (((sl).getD i s40).y), vint (((sl).getD i s40).z), vint (((sl).getD i s40).m)]) Tryz.sizeOf72 rfl rfl rfl rfl hb11 (Nat.le_of_ble_eq_true rfl) rfl rfl ?_)
     intro w12 hz12 hb11 hG12
     refine ⟨(below_upd_of hG12 hbW_b11 hszW), ?_⟩
     replace hB := below_upd hB hG12 hsz (by omega)
     replace hsz : w.heap.size ≤ w12.heap.size := by rw [hz12]; exact hsz
     replace hb1 := hb1.upd hG12 (by omega)
     replace hszW := Nat.le_trans hszW hG12.size
     replace hb9 := hb9.upd hG12 (by omega)
     replace hb10 := hb10.upd hG12 (by omega)
     refine m_o3 rfl rfl (o_store (vs := [vint (((sl).getD j s40).x), vint (((sl).getD j s40).y), vint (((sl).getD j s40).z), vint (((sl).getD j s40).m)]) (cs' := [vint (((sl).getD j s40).x), vint (((sl).getD j s40).y), vint (((sl).getD j s40).z), vint (((sl).getD j s40).m)]) Tryz.sizeOf72 rfl rfl rfl rfl hb10 (Nat.le_of_ble_eq_true rfl) rfl rfl ?_)
     intro w13 hz13 hb10 hG13
     refine ⟨(below_upd_of hG13 hbW_b10 hszW), ?_⟩
     replace hB := below_upd hB hG13 hsz (by omega)
     replace hsz : w.heap.size ≤ w13.heap.size := by rw [hz13]; exact hsz
     replace hb1 := hb1.upd hG13 (by omega)
     replace hszW := Nat.le_trans hszW hG13.size
     replace hb9 := hb9.upd hG13 (by omega)
     replace hb11 := hb11.upd hG13 (by omega)
     refine m_last3 rfl rfl rfl (o_store (vs := [vint (((ul).getD h s30).e), vint (((ul).getD h s30).n), vint (((ul).getD h s30).u)]) (cs' := [vint (((ul).getD h s30).e), vint (((ul).getD h s30).n), vint (((ul).getD h s30).u)]) Tryz.sizeOf73 rfl rfl rfl rfl hb9 (Nat.le_of_ble_eq_true rfl) rfl rfl ?_)
     intro w14 hz14 hb9 hG14
     replace hB := below_upd hB hG14 hsz (by omega)
     replace hsz : w.heap.size ≤ w14.heap.size := by rw [hz14]; exact hsz
     replace hb1 := hb1.upd hG14 (by omega)
     replace hszW := Nat.le_trans hszW hG14.size
     replace hb10 := hb10.upd hG14 (by omega)
     replace hb11 := hb11.upd hG14 (by omega)
     refine m_nil3 (r_forget [(7, .pointer _), (8, .pointer _), (9, .pointer _)] ⟨rfl, rfl, rfl, trivial⟩ (fun e15 => ?_))
     exact hj2 (b11, b10, b9) _ _ ⟨⟨rfl, rfl, rfl, trivial⟩, hb11, hb10, hb9, hb1, hsz, hB⟩
    ·
     refine m_o3 rfl rfl (o_alloc Tryz.zeroValue72 rfl rfl ?_)
     intro b16 w16 hzl16 hzr16 _ hb16 hE16
     refine ⟨(below_ext_of hE16 hszW), ?_⟩
     have hne_wb_b16 : wb ≠ b16 := by have := hk.blk.lt; omega
     have hne_b1_b16 : b1 ≠ b16 := by have := hb1.lt; omega
     have hne_b9_b16 : b9 ≠ b16 := by have := hb9.lt; omega
     have hbs_b16 : w.heap.size ≤ b16 := Nat.le_trans hsz hzl16
     have hWp_b16 := hszW
     have hbW_b16 := Nat.le_trans hszW hzl16
     replace hB := below_ext hB hE16 hsz
     replace hb1 := hb1.ext hE16
     replace hszW := Nat.le_trans hszW hE16.size
     replace hb9 := hb9.ext hE16
     replace hsz := Nat.le_trans hsz hE16.size
     refine m_o3 rfl rfl (o_alloc Tryz.zeroValue72 rfl rfl ?_)
     intro b17 w17 hzl17 hzr17 _ hb17 hE17
     refine ⟨(below_ext_of hE17 hszW), ?_⟩
     have hne_wb_b17 : wb ≠ b17 := by have := hk.blk.lt; omega
     have hne_b1_b17 : b1 ≠ b17 := by have := hb1.lt; omega
     have hne_b9_b17 : b9 ≠ b17 := by have := hb9.lt; omega
     have hne_b16_b17 : b16 ≠ b17 := by have := hb16.lt; omega
     have hbs_b17 : w.heap.size ≤ b17 := Nat.le_trans hsz hzl17
     have hWp_b17 := hszW
     have hbW_b17 := Nat.le_trans hszW hzl17
     replace hB := below_ext hB hE17 hsz
     replace hb1 := hb1.ext hE17
     replace hszW := Nat.le_trans hszW hE17.size
     replace hb9 := hb9.ext hE17
     replace hb16 := hb16.ext hE17
     replace hsz := Nat.le_trans hsz hE17.size
     refine m_o3 rfl rfl (o_store (vs := [vint (((sl).getD i s40).x), vint (((sl).getD i s40).y), vint (((sl).getD i s40).z), vint (((sl).getD i s40).m)]) (cs' := [vint (((sl).getD i s40).x), vint (((sl).getD i s40).y), vint (((sl).getD i s40).z), vint (((sl).getD i s40).m)]) Tryz.sizeOf72 rfl rfl rfl rfl hb16 (Nat.le_of_ble_eq_true rfl) rfl rfl ?_)
     intro w18 hz18 hb16 hG18
     refine ⟨(below_upd_of hG18 hbW_b16 hszW), ?_⟩
     replace hB := below_upd hB hG18 hsz (by omega)
     replace hsz : w.heap.size ≤ w18.heap.size := by rw [hz18]; exact hsz
     replace hb1 := hb1.upd hG18 (by omega)
     replace hszW := Nat.le_trans hszW hG18.size
     replace hb9 := hb9.upd hG18 (by omega)
     replace hb17 := hb17.upd hG18 (by omega)
     refine m_o3 rfl rfl (o_store (vs := [vint (((sl).getD j s40).x), vint (((sl).getD j s40).y), vint (((sl).getD j s40).z), vint (((sl).getD j s40).m)]) (cs' := [vint (((sl).getD j s40).x), vint (((sl).getD j s40).y), vint (((sl).getD j s40).z), vint (((sl).getD j s40).m)]) Tryz.sizeOf72 rfl rfl rfl rfl hb17 (Nat.le_of_ble_eq_true rfl) rfl rfl ?_)
     intro w19 hz19 hb17 hG19
     refine ⟨(below_upd_of hG19 hbW_b17 hszW), ?_⟩
     replace hB := below_upd hB hG19 hsz (by omega)
     replace hsz : w.heap.size ≤ w19.heap.size := by rw [hz19]; exact hsz
     replace hb1 := hb1.upd hG19 (by omega)
     replace hszW := Nat.le_trans hszW hG19.size
     replace hb9 := hb9.upd hG19 (by omega)
     replace hb16 := hb16.upd hG19 (by omega)
     refine m_last3 rfl rfl rfl (o_store (vs := [vint (((ul).getD h s30).e), vint (((ul).getD h s30).n), vint (((ul).getD h s30).u)]) (cs' := [vint (((ul).getD h s30).e), vint (((ul).getD h s30).n), vint (((ul).getD h s30).u)]) Tryz.sizeOf73 rfl rfl rfl rfl hb9 (Nat.le_of_ble_eq_true rfl) rfl rfl ?_)
     intro w20 hz20 hb9 hG20
     replace hB := below_upd hB hG20 hsz (by omega)
     replace hsz : w.heap.size ≤ w20.heap.size := by rw [hz20]; exact hsz
     replace hb1 := hb1.upd hG20 (by omega)
     replace hszW := Nat.le_trans hszW hG20.size
     replace hb16 := hb16.upd hG20 (by omega)
     replace hb17 := hb17.upd hG20 (by omega)
     refine m_nil3 (r_forget [(7, .pointer _), (8, .pointer _), (9, .pointer _)] ⟨rfl, rfl, rfl, trivial⟩ (fun e21 => ?_))
     exact hj2 (b16, b17, b9) _ _ ⟨⟨rfl, rfl, rfl, trivial⟩, hb16, hb17, hb9, hb1, hsz, hB⟩
   ·
    refine m_fork3 ?_ ?_
    ·
     refine m_o3 rfl rfl (o_alloc Tryz.zeroValue72 rfl rfl ?_)
     intro b22 w22 hzl22 hzr22 _ hb22 hE22
     refine ⟨(below_ext_of hE22 hszW), ?_⟩
     have hne_wb_b22 : wb ≠ b22 := by have := hk.blk.lt; omega
     have hne_b1_b22 : b1 ≠ b22 := by have := hb1.lt; omega
     have hbs_b22 : w.heap.size ≤ b22 := Nat.le_trans hsz hzl22
     have hWp_b22 := hszW
     have hbW_b22 := Nat.le_trans hszW hzl22
     replace hB := below_ext hB hE22 hsz
     replace hb1 := hb1.ext hE22
     replace hszW := Nat.le_trans hszW hE22.size
     replace hsz := Nat.le_trans hsz hE22.size
     refine m_fork3 ?_ ?_
     ·
      refine m_o3 rfl rfl (o_alloc Tryz.zeroValue73 rfl rfl ?_)
      intro b23 w23 hzl23 hzr23 _ hb23 hE23
      refine ⟨(below_ext_of hE23 hszW), ?_⟩
      have hne_wb_b23 : wb ≠ b23 := by have := hk.blk.lt; omega
      have hne_b1_b23 : b1 ≠ b23 := by have := hb1.lt; omega
      have hne_b22_b23 : b22 ≠ b23 := by have := hb22.lt; omega
      have hbs_b23 : w.heap.size ≤ b23 := Nat.le_trans hsz hzl23
      have hWp_b23 := hszW
      have hbW_b23 := Nat.le_trans hszW hzl23
      replace hB := below_ext hB hE23 hsz
      replace hb1 := hb1.ext hE23
      replace hszW := Nat.le_trans hszW hE23.size
      replace hb22 := hb22.ext hE23
      replace hsz := Nat.le_trans hsz hE23.size
      refine m_o3 rfl rfl (o_alloc Tryz.zeroValue72 rfl rfl ?_)
      intro b24 w24 hzl24 hzr24 _ hb24 hE24
      refine ⟨(below_ext_of hE24 hszW), ?_⟩
      have hne_wb_b24 : wb ≠ b24 := by have := hk.blk.lt; omega
      have hne_b1_b24 : b1 ≠ b24 := by have := hb1.lt; omega
      have hne_b22_b24 : b22 ≠ b24 := by have := hb22.lt; omega
      have hne_b23_b24 : b23 ≠ b24 := by have := hb23.lt; omega
      have hbs_b24 : w.heap.size ≤ b24 := Nat.le_trans hsz hzl24
      have hWp_b24 := hszW
      have hbW_b24 := Nat.le_trans hszW hzl24
      replace hB := below_ext hB hE24 hsz
      replace hb1 := hb1.ext hE24
      replace hszW := Nat.le_trans hszW hE24.size
      replace hb22 := hb22.ext hE24
      replace hb23 := hb23.ext hE24
      replace hsz := Nat.le_trans hsz hE24.size
      refine m_o3 rfl rfl (o_store (vs := [vint (((sl).getD i s40).x), vint (((sl).getD i s40).y), vint (((sl).getD i s40).z), vint (((sl).getD i s40).m)]) (cs' := [vint (((sl).getD i s40).x), vint (((sl).getD i s40).y), vint (((sl).getD i s40).z), vint (((sl).getD i s40).m)]) Tryz.sizeOf72 rfl rfl rfl rfl hb24 (Nat.le_of_ble_eq_true rfl) rfl rfl ?_)
      intro w25 hz25 hb24 hG25
      refine ⟨(below_upd_of hG25 hbW_b24 hszW), ?_⟩
      replace hB := below_upd hB hG25 hsz (by omega)
      replace hsz : w.heap.size ≤ w25.heap.size := by rw [hz25]; exact hsz
      replace hb1 := hb1.upd hG25 (by omega)
      replace hszW := Nat.le_trans hszW hG25.size
      replace hb22 := hb22.upd hG25 (by omega)
      replace hb23 := hb23.upd hG25 (by omega)
      refine m_o3 rfl rfl (o_store (vs := [vint (((sl).getD j s40).x), vint (((sl).getD j s40).y), vint (((sl).getD j s40).z), vint (((sl).getD j s40).m)]) (cs' := [vint (((sl).getD j s40).x), vint (((sl).getD j s40).y), vint (((sl).getD j s40).z), vint (((sl).getD j s40).m)]) Tryz.sizeOf72 rfl rfl rfl rfl hb22 (Nat.le_of_ble_eq_true rfl) rfl rfl ?_)
      intro w26 hz26 hb22 hG26
      refine ⟨(below_upd_of hG26 hbW_b22 hszW), ?_⟩
      replace hB := below_upd hB hG26 hsz (by omega)
      replace hsz : w.heap.size ≤ w26.heap.size := by rw [hz26]; exact hsz
      replace hb1 := hb1.upd hG26 (by omega)
      replace hszW := Nat.le_trans hszW hG26.size
      replace hb23 := hb23.upd hG26 (by omega)
      replace hb24 := hb24.upd hG26 (by omega)
      refine m_last3 rfl rfl rfl (o_store (vs := [vint (((ul).getD h s30).e), vint (((ul).getD h s30).n), vint (((ul).getD h s30).u)]) (cs' := [vint (((ul).getD h s30).e), vint (((ul).getD h s30).n), vint (((ul).getD h s30).u)]) Tryz.sizeOf73 rfl rfl rfl rfl hb23 (Nat.le_of_ble_eq_true rfl) rfl rfl ?_)
      intro w27 hz27 hb23 hG27
      replace hB := below_upd hB hG27 hsz (by omega)
      replace hsz : w.heap.size ≤ w27.heap.size := by rw [hz27]; exact hsz
      replace hb1 := hb1.upd hG27 (by omega)
      replace hszW := Nat.le_trans hszW hG27.size
      replace hb22 := hb22.upd hG27 (by omega)
      replace hb24 := hb24.upd hG27 (by omega)
      refine m_nil3 (r_forget [(7, .pointer _), (8, .pointer _), (9, .pointer _)] ⟨rfl, rfl, rfl, trivial⟩ (fun e28 => ?_))
      exact hj2 (b24, b22, b23) _ _ ⟨⟨rfl, rfl, rfl, trivial⟩, hb24, hb22, hb23, hb1, hsz, hB⟩
     ·
      refine m_o3 rfl rfl (o_alloc Tryz.zeroValue72 rfl rfl ?_)
      intro b29 w29 hzl29 hzr29 _ hb29 hE29
      refine ⟨(below_ext_of hE29 hszW), ?_⟩
      have hne_wb_b29 : wb ≠ b29 := by have := hk.blk.lt; omega
      have hne_b1_b29 : b1 ≠ b29 := by have := hb1.lt; omega
      have hne_b22_b29 : b22 ≠ b29 := by have := hb22.lt; omega
      have hbs_b29 : w.heap.size ≤ b29 := Nat.le_trans hsz hzl29
      have hWp_b29 := hszW
      have hbW_b29 := Nat.le_trans hszW hzl29
      replace hB := below_ext hB hE29 hsz
      replace hb1 := hb1.ext hE29
      replace hszW := Nat.le_trans hszW hE29.size
      replace hb22 := hb22.ext hE29
      replace hsz := Nat.le_trans hsz hE29.size
      refine m_o3 rfl rfl (o_alloc Tryz.zeroValue73 rfl rfl ?_)
      intro b30 w30 hzl30 hzr30 _ hb30 hE30
      refine ⟨(below_ext_of hE30 hszW), ?_⟩
      have hne_wb_b30 : wb ≠ b30 := by have := hk.blk.lt; omega
      have hne_b1_b30 : b1 ≠ b30 := by have := hb1.lt; omega
      have hne_b22_b30 : b22 ≠ b30 := by have := hb22.lt; omega
      have hne_b29_b30 : b29 ≠ b30 := by have := hb29.lt; omega
      have hbs_b30 : w.heap.size ≤ b30 := Nat.le_trans hsz hzl30
      have hWp_b30 := hszW
      have hbW_b30 := Nat.le_trans hszW hzl30
      replace hB := below_ext hB hE30 hsz
      replace hb1 := hb1.ext hE30
      replace hszW := Nat.le_trans hszW hE30.size
      replace hb22 := hb22.ext hE30
      replace hb29 := hb29.ext hE30
      replace hsz := Nat.le_trans hsz hE30.size
      refine m_o3 rfl rfl (o_store (vs := [vint (((sl).getD i s40).x), vint (((sl).getD i s40).y), vint (((sl).getD i s40).z), vint (((sl).getD i s40).m)]) (cs' := [vint (((sl).getD i s40).x), vint (((sl).getD i s40).y), vint (((sl).getD i s40).z), vint (((sl).getD i s40).m)]) Tryz.sizeOf72 rfl rfl rfl rfl hb29 (Nat.le_of_ble_eq_true rfl) rfl rfl ?_)
      intro w31 hz31 hb29 hG31
      refine ⟨(below_upd_of hG31 hbW_b29 hszW), ?_⟩
      replace hB := below_upd hB hG31 hsz (by omega)
      replace hsz : w.heap.size ≤ w31.heap.size := by rw [hz31]; exact hsz
      replace hb1 := hb1.upd hG31 (by omega)
      replace hszW := Nat.le_trans hszW hG31.size
      replace hb22 := hb22.upd hG31 (by omega)
      replace hb30 := hb30.upd hG31 (by omega)
      refine m_o3 rfl rfl (o_store (vs := [vint (((sl).getD j s40).x), vint (((sl).getD j s40).y), vint (((sl).getD j s40).z), vint (((sl).getD j s40).m)]) (cs' := [vint (((sl).getD j s40).x), vint (((sl).getD j s40).y), vint (((sl).getD j s40).z), vint (((sl).getD j s40).m)]) Tryz.sizeOf72 rfl rfl rfl rfl hb22 (Nat.le_of_ble_eq_true rfl) rfl rfl ?_)
      intro w32 hz32 hb22 hG32
      refine ⟨(below_upd_of hG32 hbW_b22 hszW), ?_⟩
      replace hB := below_upd hB hG32 hsz (by omega)
      replace hsz : w.heap.size ≤ w32.heap.size := by rw [hz32]; exact hsz
      replace hb1 := hb1.upd hG32 (by omega)
      replace hszW := Nat.le_trans hszW hG32.size
      replace hb29 := hb29.upd hG32 (by omega)
      replace hb30 := hb30.upd hG32 (by omega)
      refine m_last3 rfl rfl rfl (o_store (vs := [vint (((ul).getD h s30).e), vint (((ul).getD h s30).n), vint (((ul).getD h s30).u)]) (cs' := [vint (((ul).getD h s30).e), vint (((ul).getD h s30).n), vint (((ul).getD h s30).u)]) Tryz.sizeOf73 rfl rfl rfl rfl hb30 (Nat.le_of_ble_eq_true rfl) rfl rfl ?_)
      intro w33 hz33 hb30 hG33
      replace hB := below_upd hB hG33 hsz (by omega)
      replace hsz : w.heap.size ≤ w33.heap.size := by rw [hz33]; exact hsz
      replace hb1 := hb1.upd hG33 (by omega)
      replace hszW := Nat.le_trans hszW hG33.size
      replace hb22 := hb22.upd hG33 (by omega)
      replace hb29 := hb29.upd hG33 (by omega)
      refine m_nil3 (r_forget [(7, .pointer _), (8, .pointer _), (9, .pointer _)] ⟨rfl, rfl, rfl, trivial⟩ (fun e34 => ?_))
      exact hj2 (b29, b22, b30) _ _ ⟨⟨rfl, rfl, rfl, trivial⟩, hb29, hb22, hb30, hb1, hsz, hB⟩
    ·
     refine m_o3 rfl rfl (o_alloc Tryz.zeroValue72 rfl rfl ?_)
     intro b35 w35 hzl35 hzr35 _ hb35 hE35
     refine ⟨(below_ext_of hE35 hszW), ?_⟩
     have hne_wb_b35 : wb ≠ b35 := by have := hk.blk.lt; omega
     have hne_b1_b35 : b1 ≠ b35 := by have := hb1.lt; omega
     have hbs_b35 : w.heap.size ≤ b35 := Nat.le_trans hsz hzl35
     have hWp_b35 := hszW
     have hbW_b35 := Nat.le_trans hszW hzl35
     replace hB := below_ext hB hE35 hsz
     replace hb1 := hb1.ext hE35
     replace hszW := Nat.le_trans hszW hE35.size
     replace hsz := Nat.le_trans hsz hE35.size
     refine m_fork3 ?_ ?_
     ·
      refine m_o3 rfl rfl (o_alloc Tryz.zeroValue73 rfl rfl ?_)
      intro b36 w36 hzl36 hzr36 _ hb36 hE36
      refine ⟨(below_ext_of hE36 hszW), ?_⟩
      have hne_wb_b36 : wb ≠ b36 := by have := hk.blk.lt; omega
      have hne_b1_b36 : b1 ≠ b36 := by have := hb1.lt; omega
      have hne_b35_b36 : b35 ≠ b36 := by have := hb35.lt; omega
      have hbs_b36 : w.heap.size ≤ b36 := Nat.le_trans hsz hzl36
      have hWp_b36 := hszW
      have hbW_b36 := Nat.le_trans hszW hzl36
      replace hB := below_ext hB hE36 hsz
      replace hb1 := hb1.ext hE36
      replace hszW := Nat.le_trans hszW hE36.size
      replace hb35 := hb35.ext hE36
      replace hsz := Nat.le_trans hsz hE36.size
      refine m_o3 rfl rfl (o_alloc Tryz.zeroValue72 rfl rfl ?_)
      intro b37 w37 hzl37 hzr37 _ hb37 hE37
      refine ⟨(below_ext_of hE37 hszW), ?_⟩
      have hne_wb_b37 : wb ≠ b37 := by have := hk.blk.lt; omega
      have hne_b1_b37 : b1 ≠ b37 := by have := hb1.lt; omega
      have hne_b35_b37 : b35 ≠ b37 := by have := hb35.lt; omega
      have hne_b36_b37 : b36 ≠ b37 := by have := hb36.lt; omega
      have hbs_b37 : w.heap.size ≤ b37 := Nat.le_trans hsz hzl37
      have hWp_b37 := hszW
      have hbW_b37 := Nat.le_trans hszW hzl37
      replace hB := below_ext hB hE37 hsz
      replace hb1 := hb1.ext hE37
      replace hszW := Nat.le_trans hszW hE37.size
      replace hb35 := hb35.ext hE37
      replace hb36 := hb36.ext hE37
      replace hsz := Nat.le_trans hsz hE37.size
      refine m_o3 rfl rfl (o_store (vs := [vint (((sl).getD i s40).x), vint (((sl).getD i s40).y), vint (((sl).getD i s40).z), vint (((sl).getD i s40).m)]) (cs' := [vint (((sl).getD i s40).x), vint (((sl).getD i s40).y), vint (((sl).getD i s40).z), vint (((sl).getD i s40).m)]) Tryz.sizeOf72 rfl rfl rfl rfl hb35 (Nat.le_of_ble_eq_true rfl) rfl rfl ?_)
      intro w38 hz38 hb35 hG38
      refine ⟨(below_upd_of hG38 hbW_b35 hszW), ?_⟩
      replace hB := below_upd hB hG38 hsz (by omega)
      replace hsz : w.heap.size ≤ w38.heap.size := by rw [hz38]; exact hsz
      replace hb1 := hb1.upd hG38 (by omega)
      replace hszW := Nat.le_trans hszW hG38.size
      replace hb36 := hb36.upd hG38 (by omega)
      replace hb37 := hb37.upd hG38 (by omega)
      refine m_o3 rfl rfl (o_store (vs := [vint (((sl).getD j s40).x), vint (((sl).getD j s40).y), vint (((sl).getD j s40).z), vint (((sl).getD j s40).m)]) (cs' := [vint (((sl).getD j s40).x), vint (((sl).getD j s40).y), vint (((sl).getD j s40).z), vint (((sl).getD j s40).m)]) Tryz.sizeOf72 rfl rfl rfl rfl hb37 (Nat.le_of_ble_eq_true rfl) rfl rfl ?_)
      intro w39 hz39 hb37 hG39
      refine ⟨(below_upd_of hG39 hbW_b37 hszW), ?_⟩
      replace hB := below_upd hB hG39 hsz (by omega)
      replace hsz : w.heap.size ≤ w39.heap.size := by rw [hz39]; exact hsz
      replace hb1 := hb1.upd hG39 (by omega)
      replace hszW := Nat.le_trans hszW hG39.size
      replace hb35 := hb35.upd hG39 (by omega)
      replace hb36 := hb36.upd hG39 (by omega)
      refine m_last3 rfl rfl rfl (o_store (vs := [vint (((ul).getD h s30).e), vint (((ul).getD h s30).n), vint (((ul).getD h s30).u)]) (cs' := [vint (((ul).getD h s30).e), vint (((ul).getD h s30).n), vint (((ul).getD h s30).u)]) Tryz.sizeOf73 rfl rfl rfl rfl hb36 (Nat.le_of_ble_eq_true rfl) rfl rfl ?_)
      intro w40 hz40 hb36 hG40
      replace hB := below_upd hB hG40 hsz (by omega)
      replace hsz : w.heap.size ≤ w40.heap.size := by rw [hz40]; exact hsz
      replace hb1 := hb1.upd hG40 (by omega)
      replace hszW := Nat.le_trans hszW hG40.size
      replace hb35 := hb35.upd hG40 (by omega)
      replace hb37 := hb37.upd hG40 (by omega)
      refine m_nil3 (r_forget [(7, .pointer _), (8, .pointer _), (9, .pointer _)] ⟨rfl, rfl, rfl, trivial⟩ (fun e41 => ?_))
      exact hj2 (b35, b37, b36) _ _ ⟨⟨rfl, rfl, rfl, trivial⟩, hb35, hb37, hb36, hb1, hsz, hB⟩
     ·
      refine m_o3 rfl rfl (o_alloc Tryz.zeroValue72 rfl rfl ?_)
      intro b42 w42 hzl42 hzr42 _ hb42 hE42
      refine ⟨(below_ext_of hE42 hszW), ?_⟩
      have hne_wb_b42 : wb ≠ b42 := by have := hk.blk.lt; omega
      have hne_b1_b42 : b1 ≠ b42 := by have := hb1.lt; omega
      have hne_b35_b42 : b35 ≠ b42 := by have := hb35.lt; omega
      have hbs_b42 : w.heap.size ≤ b42 := Nat.le_trans hsz hzl42
      have hWp_b42 := hszW
      have hbW_b42 := Nat.le_trans hszW hzl42
      replace hB := below_ext hB hE42 hsz
      replace hb1 := hb1.ext hE42
      replace hszW := Nat.le_trans hszW hE42.size
      replace hb35 := hb35.ext hE42
      replace hsz := Nat.le_trans hsz hE42.size
      refine m_o3 rfl rfl (o_alloc Tryz.zeroValue73 rfl rfl ?_)
      intro b43 w43 hzl43 hzr43 _ hb43 hE43
      refine ⟨(below_ext_of hE43 hszW), ?_⟩
      have hne_wb_b43 : wb ≠ b43 := by have := hk.blk.lt; omega
      have hne_b1_b43 : b1 ≠ b43 := by have := hb1.lt; omega
      have hne_b35_b43 : b35 ≠ b43 := by have := hb35.lt; omega
      have hne_b42_b43 : b42 ≠ b43 := by have := hb42.lt; omega
      have hbs_b43 : w.heap.size ≤ b43 := Nat.le_trans hsz hzl43
      have hWp_b43 := hszW
      have hbW_b43 := Nat.le_trans hszW hzl43
      replace hB := below_ext hB hE43 hsz
      replace hb1 := hb1.ext hE43
      replace hszW := Nat.le_trans hszW hE43.size
      replace hb35 := hb35.ext hE43
      replace hb42 := hb42.ext hE43
      replace hsz := Nat.le_trans hsz hE43.size
      refine m_o3 rfl rfl (o_store (vs := [vint (((sl).getD i s40).x), vint (((sl).getD i s40).y), vint (((sl).getD i s40).z), vint (((sl).getD i s40).m)]) (cs' := [vint (((sl).getD i s40).x), vint (((sl).getD i s40).y), vint (((sl).getD i s40).z), vint (((sl).getD i s40).m)]) Tryz.sizeOf72 rfl rfl rfl rfl hb35 (Nat.le_of_ble_eq_true rfl) rfl rfl ?_)
      intro w44 hz44 hb35 hG44
      refine ⟨(below_upd_of hG44 hbW_b35 hszW), ?_⟩
      replace hB := below_upd hB hG44 hsz (by omega)
      replace hsz : w.heap.size ≤ w44.heap.size := by rw [hz44]; exact hsz
      replace hb1 := hb1.upd hG44 (by omega)
      replace hszW := Nat.le_trans hszW hG44.size
      replace hb42 := hb42.upd hG44 (by omega)
      replace hb43 := hb43.upd hG44 (by omega)
      refine m_o3 rfl rfl (o_store (vs := [vint (((sl).getD j s40).x), vint (((sl).getD j s40).y), vint (((sl).getD j s40).z), vint (((sl).getD j s40).m)]) (cs' := [vint (((sl).getD j s40).x), vint (((sl).getD j s40).y), vint (((sl).getD j s40).z), vint (((sl).getD j s40).m)]) Tryz.sizeOf72 rfl rfl rfl rfl hb42 (Nat.le_of_ble_eq_true rfl) rfl rfl ?_)
      intro w45 hz45 hb42 hG45
      refine ⟨(below_upd_of hG45 hbW_b42 hszW), ?_⟩
      replace hB := below_upd hB hG45 hsz (by omega)
      replace hsz : w.heap.size ≤ w45.heap.size := by rw [hz45]; exact hsz
      replace hb1 := hb1.upd hG45 (by omega)
      replace hszW := Nat.le_trans hszW hG45.size
      replace hb35 := hb35.upd hG45 (by omega)
      replace hb43 := hb43.upd hG45 (by omega)
      refine m_last3 rfl rfl rfl (o_store (vs := [vint (((ul).getD h s30).e), vint (((ul).getD h s30).n), vint (((ul).getD h s30).u)]) (cs' := [vint (((ul).getD h s30).e), vint (((ul).getD h s30).n), vint (((ul).getD h s30).u)]) Tryz.sizeOf73 rfl rfl rfl rfl hb43 (Nat.le_of_ble_eq_true rfl) rfl rfl ?_)
      intro w46 hz46 hb43 hG46
      replace hB := below_upd hB hG46 hsz (by omega)
      replace hsz : w.heap.size ≤ w46.heap.size := by rw [hz46]; exact hsz
      replace hb1 := hb1.upd hG46 (by omega)
      replace hszW := Nat.le_trans hszW hG46.size
      replace hb35 := hb35.upd hG46 (by omega)
      replace hb42 := hb42.upd hG46 (by omega)
      refine m_nil3 (r_forget [(7, .pointer _), (8, .pointer _), (9, .pointer _)] ⟨rfl, rfl, rfl, trivial⟩ (fun e47 => ?_))
      exact hj2 (b35, b42, b43) _ _ ⟨⟨rfl, rfl, rfl, trivial⟩, hb35, hb42, hb43, hb1, hsz, hB⟩
theorem ridges_ret (sa : Option Addr) (sc : Nat) (sl : List S4) (ra : Option Addr) (rc : Nat) (rl : List WL) (ka : Option Addr) (kc : Nat) (kl : List KV) (ua : Option Addr) (uc : Nat) (ul : List S3) (wb m : Nat) (clock : Nat) (es : List MapEntry) (i j : Nat) (w : World) (hok : OkL sl rl kl ul) (hk : HwH w sa sc sl ra rc rl ka kc kl ua uc ul wb m) (hM : MapAt w m es clock) (hMemo : MemoR w sl rl es) (hgi : i < sl.length) (hgj : j < sl.length) : Ret Tryz.prog 70 [ptr wb 0, .agg ⟨[vint (i : Int), vint (j : Int)]⟩] w (fun v w' => ∃ a c xs, v = .slice a (List.length xs) c ∧ Row w' a xs.length c 1 (xs.map vint) ∧ decide (0 < xs.length) = rdgF sl rl i j ∧ ∃ es2 ck2, MapAt w' m es2 ck2 ∧ MemoR w' sl rl es2 ∧ w.grownBy w' (some m) ∧ (∀ p, p < w.heap.size → Away p es → Away p es2 ∧ AwayS p a xs.length)) := by
 have hs6 := hok.s6
 have hr6 := hok.r6
 have hk4 := hok.k4
 have hu12 := hok.u12
 have hs0 := hok.s0
 have hk0 := hok.k0
 have hu0 := hok.u0
 have hwbl := hk.blk.lt
 have hB := Below.refl w.heap.size w
 have hsz : w.heap.size ≤ w.heap.size := Nat.le_refl _
 refine ret_of_runs (args := [_, _]) Tryz.func70 rfl (Nat.le_of_ble_eq_true rfl) (by kernel_rfl) (r_seq (r_region' (l_o (o_boxt rfl rfl rfl ?_))))
 intro b1 w1 hzl1 hzr1 _ hb1 hty_b1 hE1
 have hne_wb_b1 : wb ≠ b1 := by have := hk.blk.lt; omega
 have hbs_b1 : w.heap.size ≤ b1 := Nat.le_trans hsz hzl1
 replace hB := below_ext hB hE1 hsz
 replace hsz := Nat.le_trans hsz hE1.size
 refine l_q (qas rfl rfl) (l_nil (r_seq (r_draw ext_refl' ext_trans' [0, 1, 2, 3, 4, 5, 6, 7, 8, 9, 10] [] 12 (by kernel_rfl) (by kernel_rfl) ?_)))
 intro w2 _ hE2
 replace hB := below_ext hB hE2 hsz
 replace hb1 := hb1.ext hE2
 replace hty_b1 := hty_b1.ext hE2
 replace hsz := Nat.le_trans hsz hE2.size
 refine m_q rfl rfl (fun w' hC' => q_move (v := .pointer _) rfl rfl) (m_q rfl rfl (fun w' hC' => q_nilCheck rfl rfl) (m_q rfl rfl (fun w' hC' => q_fieldAddr (o' := 4) rfl fld99_1 rfl) (m_q rfl rfl (fun w' hC' => q_load Tryz.isAgg97 rfl ((((hk.blk.below hB (by omega)).has (o := 4) rfl).ext hC')) rfl) (m_q rfl rfl (fun w' hC' => q_load_agg (n := 2) Tryz.isAgg78 Tryz.sizeOf78 rfl (((hb1.cells' (cs' := [_, _]) 0 2 rfl).ext hC')) rfl rfl) (m_look rfl rfl Tryz.underlying97 Tryz.underlying78 Tryz.zeroValue31 rfl rfl (fun w2 hC2 => (hM.ext (Ext.of_below hB)).ext hC2) (fun em w => hlTy.key (n := 9998) _ _ w) (asks_hl hMemo _ _) rfl ?_)))))
 intro v3 ok3 hA3 hC3
 obtain ⟨la, lc, lx, rfl, hly, hln⟩ := hl_get hMemo hA3 hC3
 refine m_q rfl rfl (fun w' hC' => q_move (v := .tuple _) rfl rfl) (m_q rfl rfl (fun w' hC' => q_extract (vs := [_, _]) (v := .slice _ _ _) rfl rfl rfl) (m_q rfl rfl (fun w' hC' => q_extract (vs := [_, _]) (v := .bool _) rfl rfl rfl) (m_q rfl rfl (fun w' hC' => qas rfl rfl) (m_q rfl rfl (fun w' hC' => qab rfl rfl) (m_nil (r_forget [(0, .pointer _), (3, .pointer _), (5, .slice _ _ _), (6, .bool _)] ⟨rfl, rfl, rfl, rfl, trivial⟩ (fun e4 => (r_seq (r_seq (r_region' (l_q (qmb rfl rfl) (l_nil (r_cond rfl (fun hc5 => ?_) (fun hc5 => ?_))))))))))))))
 ·
  obtain ⟨hlr, hlv, hlm⟩ := hly hc5
  refine r_seq (r_region' (l_q (qms rfl rfl) (l_q (qas rfl rfl) (l_nil (r_ret_ (vs := [.slice _ _ _]) rfl Tryz.func70 rfl (.nil _) ⟨rfl, trivial⟩ ?_)))))
  exact ⟨_, _, _, rfl, hlr.ext (Ext.of_below hB), hlv, _, _, hM.ext (Ext.of_below hB), hMemo.ext (Ext.of_below hB), gm_ext (Ext.of_below hB), fun p hp ha => ⟨ha, away_in ha hlm⟩⟩
 ·
  have hnil := hln hc5
  refine r_skip (r_seq (r_seq (r_region' (l_q (q_move (v := .pointer _) rfl rfl) (l_q (q_nilCheck rfl rfl) (l_q (q_fieldAddr (o' := 0) rfl fld99_0 rfl) (l_q (q_fieldAddr (o' := 1) rfl fld52_1 rfl) (l_q (q_load Tryz.isAgg48 rfl (((hk.blk.below hB (by omega)).has (o := 1) rfl)) rfl) (l_q (q_len rfl Tryz.underlying48 rfl rfl) (l_q (qmi rfl rfl) (l_nil (r_block ?_))))))))))))
  refine r_rounds (α := Nat × (Option Addr) × Nat × (List Int)) (fun ⟨k, oa, oc, X⟩ e wl => Knows e [(0, ptr wb 0), (3, ptr b1 0), (5, .slice oa X.length oc), (24, .slice ra rl.length rc), (25, vint (rl.length : Int)), (26, vint (k : Int))] ∧ (k ≤ rl.length) ∧ (decide (0 < X.length) = (rl.take k).any (fun k => blkF k (sl.getD i s40) (sl.getD j s40))) ∧ (X.length ≤ k) ∧ (wl.ownsRow w.heap.size 3 1 (.slice oa X.length oc) X.length (X.map vint)) ∧ (Blk wl b1 [vint (i : Int), vint (j : Int)]) ∧ (TyAt wl b1 78) ∧ (w.heap.size ≤ wl.heap.size) ∧ (Below w.heap.size w wl)) (fun ⟨k, oa, oc, X⟩ => rl.length - k) (0, none, 0, []) ?_ ?_
  ·
   exact ⟨⟨rfl, rfl, hnil, rfl, rfl, rfl, trivial⟩, (Nat.zero_le _), rfl, (Nat.le_refl _), (World.ownsRow_nil _ _ _ _), hb1, hty_b1, hsz, hB⟩
  ·
   rintro ⟨k, oa, oc, X⟩ el6 wl6 ⟨hkn, hk2, hX, hXl, hco, hb1, hty_b1, hsz, hB⟩ ih6
   obtain ⟨e6, rfl⟩ := knows_env hkn
   refine r_seq (r_region' (l_q (q_lss rfl rfl rfl) (l_nil (r_seq (r_cond rfl (fun hc7 => ?_) (fun hc7 => ?_))))))
   ·
    replace hc7 := dt hc7
    have hkr : k < rl.length := by omega
    refine r_skip (r_seq (r_block (r_seq (r_region' (l_q (qmi rfl rfl) ?_)))))
    obtain ⟨b8, o8, ha8, hh8⟩ := (hk.lan.rr.below hB).at (by decide) k (by omega)
    refine l_q (q_indexAddr Tryz.underlying48 Tryz.sizeOf83 rfl ha8 rfl (by omega) rfl) (l_q (q_load_agg (cs := [vint (((rl).getD k wl0).x1), vint (((rl).getD k wl0).y1), vint (((rl).getD k wl0).x2), vint (((rl).getD k wl0).y2), vint (((rl).getD k wl0).ba), vint (((rl).getD k wl0).tp)]) (n := 6) Tryz.isAgg83 Tryz.sizeOf83 rfl ((cells_cast (wide_at WL.len wl0 _ _ (by omega)) hh8)) rfl rfl) (l_o (o_alloct Tryz.zeroValue83 rfl rfl ?_)))
    intro b9 w9 hzl9 hzr9 _ hb9 hty_b9 hE9
    have hne_wb_b9 : wb ≠ b9 := by have := hk.blk.lt; omega
    have hne_b1_b9 : b1 ≠ b9 := by have := hb1.lt; omega
    have hbs_b9 : w.heap.size ≤ b9 := Nat.le_trans hsz hzl9
    replace hB := below_ext hB hE9 hsz
    replace hb1 := hb1.ext hE9
    replace hty_b1 := hty_b1.ext hE9
    replace hco := own_ext hco hE9
    replace hsz := Nat.le_trans hsz hE9.size
    refine l_q (qai rfl rfl) (l_o (o_storet (vs := [vint (((rl).getD k wl0).x1), vint (((rl).getD k wl0).y1), vint (((rl).getD k wl0).x2), vint (((rl).getD k wl0).y2), vint (((rl).getD k wl0).ba), vint (((rl).getD k wl0).tp)]) (cs' := [vint (((rl).getD k wl0).x1), vint (((rl).getD k wl0).y1), vint (((rl).getD k wl0).x2), vint (((rl).getD k wl0).y2), vint (((rl).getD k wl0).ba), vint (((rl).getD k wl0).tp)]) Tryz.sizeOf83 rfl rfl rfl rfl hb9 (Nat.le_of_ble_eq_true rfl) rfl rfl ?_))
    intro w10 hz10 hb9 hT10 hG10
    replace hB := below_upd hB hG10 hsz (by omega)
    replace hsz : w.heap.size ≤ w10.heap.size := by rw [hz10]; exact hsz
    replace hb1 := hb1.upd hG10 (by omega)
    replace hty_b1 := hty_b1.upd hG10 (by omega)
    replace hco := own_ty_upd hco hty_b9 hG10 (by decide)
    refine l_nil (r_seq (r_draw ext_refl' ext_trans' [0, 1, 2, 3, 4, 5, 6, 7, 8, 9, 10, 11, 12, 13, 14, 15, 16, 17, 18, 19] [19] 24 (by kernel_rfl) (by kernel_rfl) ?_))
    intro w11 _ hE11
    replace hB := below_ext hB hE11 hsz
    replace hb1 := hb1.ext hE11
    replace hty_b1 := hty_b1.ext hE11
    replace hco := own_ext hco hE11
    replace hb9 := hb9.ext hE11
    replace hsz := Nat.le_trans hsz hE11.size
    refine m_q rfl rfl (fun w' hC' => q_load_agg (n := 6) Tryz.isAgg83 Tryz.sizeOf83 rfl (((hb9.cells' (cs' := [_, _, _, _, _, _]) 0 6 rfl).ext hC')) rfl rfl) (m_q rfl rfl (fun w' hC' => q_move (v := .pointer _) rfl rfl) (m_q rfl rfl (fun w' hC' => q_nilCheck rfl rfl) (m_q rfl rfl (fun w' hC' => q_fieldAddr (o' := 0) rfl fld99_0 rfl) (m_q rfl rfl (fun w' hC' => q_fieldAddr (o' := 0) rfl fld52_0 rfl) (m_q rfl rfl (fun w' hC' => q_load Tryz.isAgg47 rfl ((((hk.blk.below hB (by omega)).has (o := 0) rfl).ext hC')) rfl) (m_q rfl rfl (fun w' hC' => q_fieldAddr (o' := 0) rfl fld78_0 rfl) (m_q rfl rfl (fun w' hC' => q_load Tryz.isAgg3 rfl (((hb1.has (o := 0) rfl).ext hC')) rfl) ?_)))))))
    obtain ⟨b12, o12, ha12, hh12⟩ := (hk.lan.rs.below hB).at (by decide) i (by omega)
    refine m_q rfl rfl (fun w' hC' => q_indexAddr Tryz.underlying47 Tryz.sizeOf72 rfl ha12 rfl (by omega) rfl) (m_q rfl rfl (fun w' hC' => q_load_agg (cs := [vint (((sl).getD i s40).x), vint (((sl).getD i s40).y), vint (((sl).getD i s40).z), vint (((sl).getD i s40).m)]) (n := 4) Tryz.isAgg72 Tryz.sizeOf72 rfl (((cells_cast (wide_at S4.len s40 _ _ (by omega)) hh12).ext hC')) rfl rfl) (m_q rfl rfl (fun w' hC' => q_move (v := .pointer _) rfl rfl) (m_q rfl rfl (fun w' hC' => q_nilCheck rfl rfl) (m_q rfl rfl (fun w' hC' => q_fieldAddr (o' := 0) rfl fld99_0 rfl) (m_q rfl rfl (fun w' hC' => q_fieldAddr (o' := 0) rfl fld52_0 rfl) (m_q rfl rfl (fun w' hC' => q_load Tryz.isAgg47 rfl ((((hk.blk.below hB (by omega)).has (o := 0) rfl).ext hC')) rfl) (m_q rfl rfl (fun w' hC' => q_fieldAddr (o' := 1) rfl fld78_1 rfl) (m_q rfl rfl (fun w' hC' => q_load Tryz.isAgg3 rfl (((hb1.has (o := 1) rfl).ext hC')) rfl) ?_))))))))
    obtain ⟨b13, o13, ha13, hh13⟩ := (hk.lan.rs.below hB).at (by decide) j (by omega)
    refine m_q rfl rfl (fun w' hC' => q_indexAddr Tryz.underlying47 Tryz.sizeOf72 rfl ha13 rfl (by omega) rfl) (m_q rfl rfl (fun w' hC' => q_load_agg (cs := [vint (((sl).getD j s40).x), vint (((sl).getD j s40).y), vint (((sl).getD j s40).z), vint (((sl).getD j s40).m)]) (n := 4) Tryz.isAgg72 Tryz.sizeOf72 rfl (((cells_cast (wide_at S4.len s40 _ _ (by omega)) hh13).ext hC')) rfl rfl) (m_o rfl rfl (o_call Tryz.call108 rfl (blocks_ret (rl.getD k wl0) (sl.getD i s40) (sl.getD j s40) _ (okRg_wl (hok.rg k hkr)) (hok.st i hgi) (hok.st j hgj)) rfl ?_)))
    rintro _ w14 ⟨rfl, hE14⟩
    refine ⟨hE14, ?_⟩
    replace hB := below_ext hB hE14 hsz
    replace hb1 := hb1.ext hE14
    replace hty_b1 := hty_b1.ext hE14
    replace hco := own_ext hco hE14
    replace hb9 := hb9.ext hE14
    replace hsz := Nat.le_trans hsz hE14.size
    refine m_nil (r_forget [(0, .pointer _), (3, .pointer _), (5, .slice _ _ _), (7, .int _ _), (24, .slice _ _ _), (25, .int _ _), (26, .int _ _), (50, .bool _)] ⟨rfl, rfl, rfl, rfl, rfl, rfl, rfl, rfl, trivial⟩ (fun e15 => (r_cond rfl (fun hc16 => ?_) (fun hc16 => ?_))))
    ·
     have g50 := hc16
     refine r_region' (l_q (qms rfl rfl) (l_q (qmi rfl rfl) (l_o (o_buildSlice (el := 3) (cs := [vint (k : Int)]) Tryz.underlying31 el3 (by decide) (by kernel_rfl) rfl (by decide) rfl ?_))))
     intro b17 w17 hzl17 hzr17 _ hb17 hE17 ho17
     have hne_wb_b17 : wb ≠ b17 := by have := hk.blk.lt; omega
     have hne_b1_b17 : b1 ≠ b17 := by have := hb1.lt; omega
     have hne_b9_b17 : b9 ≠ b17 := by have := hb9.lt; omega
     have hbs_b17 : w.heap.size ≤ b17 := Nat.le_trans hsz hzl17
     replace hB := below_ext hB hE17 hsz
     replace hb1 := hb1.ext hE17
     replace hty_b1 := hty_b1.ext hE17
     replace hco := own_ext hco hE17
     replace hsz := Nat.le_trans hsz hE17.size
     refine l_o (o_append_map (f := vint) (X) ([(k : Int)]) Tryz.underlying31 el3 rfl rfl hco rfl (Row.of_owns ho17) (fun _ => rfl) (by (try simp only [List.length_append, List.length_cons, List.length_nil, List.length_take, List.length_drop, List.length_replicate]); omega) (by omega) rfl ?_)
     intro a18 c18 w18 hz18 ho18 hG18
     replace hB := below_own hB hG18 hco (by omega) hsz
     replace hsz := Nat.le_trans hsz hG18.size
     replace hb1 := hb1.step hG18 (own_ty_ne hco hty_b1 (by decide))
     replace hty_b1 := TyAt.own hty_b1 hco hG18 (by decide)
     refine l_q (qas rfl rfl) (l_nil (r_inBlock (r_region' (l_q (q_add rfl rfl (by omega) rfl) (l_q (qmi rfl rfl) (l_nil ?_))))))
     exact ih6 (k + 1, a18, c18, X ++ [(k : Int)]) _ _ ⟨⟨rfl, rfl, rfl, rfl, rfl, (vint_eq (by omega)), trivial⟩, (by omega), (by first | exact rdg_yes hkr g50 | exact rdg_no hkr g50 hX), (by first | (rw [List.length_append]; simp only [List.length_cons, List.length_nil]; omega) | omega), ho18, hb1, hty_b1, hsz, hB⟩ (by first | omega | (dsimp only; omega))
    ·
     have g50 := hc16
     refine r_skip (r_inBlock (r_region' (l_q (q_add rfl rfl (by omega) rfl) (l_q (qmi rfl rfl) (l_nil ?_)))))
     exact ih6 (k + 1, oa, oc, X) _ _ ⟨⟨rfl, rfl, rfl, rfl, rfl, (vint_eq (by omega)), trivial⟩, (by omega), (by first | exact rdg_yes hkr g50 | exact rdg_no hkr g50 hX), (by first | (rw [List.length_append]; simp only [List.length_cons, List.length_nil]; omega) | omega), hco, hb1, hty_b1, hsz, hB⟩ (by first | omega | (dsimp only; omega))
   ·
    replace hc7 := dlt hc7
    refine r_exit rfl (r_seq ?_)
    have hke : k = rl.length := by omega
    subst hke
    have hXe : decide (0 < X.length) = rdgF sl rl i j := by rw [hX, List.take_length]; rfl
    refine r_draw ext_refl' ext_trans' [0, 1, 2, 3, 4, 5, 6] [6, 1006] 12 (by kernel_rfl) (by kernel_rfl) ?_
    intro w19 _ hE19
    replace hB := below_ext hB hE19 hsz
    replace hb1 := hb1.ext hE19
    replace hco := own_ext hco hE19
    replace hsz := Nat.le_trans hsz hE19.size
    refine m_q rfl rfl (fun w' hC' => q_move (v := .pointer _) rfl rfl) (m_q rfl rfl (fun w' hC' => q_nilCheck rfl rfl) (m_q rfl rfl (fun w' hC' => q_fieldAddr (o' := 4) rfl fld99_1 rfl) (m_q rfl rfl (fun w' hC' => q_load Tryz.isAgg97 rfl ((((hk.blk.below hB (by omega)).has (o := 4) rfl).ext hC')) rfl) (m_q rfl rfl (fun w' hC' => q_load_agg (n := 2) Tryz.isAgg78 Tryz.sizeOf78 rfl (((hb1.cells' (cs' := [_, _]) 0 2 rfl).ext hC')) rfl rfl) (m_q rfl rfl (fun w' hC' => qms rfl rfl) ?_)))))
    have hBm := hB
    have hM1 := hM.ext (Ext.of_below hB)
    have hown1 := hco
    have hr1 := Row.of_owns hown1
    have hMm1 := hMemo.ext (Ext.of_below hB)
    refine m_last rfl rfl rfl (o_mapUpdate Tryz.underlying97 Tryz.underlying78 rfl rfl rfl hM1 (fun em w => hlTy.key (n := 9998) _ _ w) (asks_hl hMm1 _ _) (sameBits_ints [(i : Int), (j : Int)]) rfl ?_)
    intro es20 ck20 w20 hz20 hM2 hGm hin
    replace hsz : w.heap.size ≤ w20.heap.size := by rw [hz20]; exact hsz
    have hMm2 := hl_put (hMm1.gm hM1 hGm) hin (hr1.gm hM1 hGm) hXe
    refine m_nil (r_forget [(5, .slice _ _ _)] ⟨rfl, trivial⟩ (fun e21 => (r_seq (r_region' (l_q (qms rfl rfl) (l_q (qas rfl rfl) (l_nil (r_ret_ (vs := [.slice _ _ _]) rfl Tryz.func70 rfl (.nil _) ⟨rfl, trivial⟩ ?_))))))))
    exact ⟨_, _, X, rfl, hr1.gm hM1 hGm, hXe, _, _, hM2, hMm2, gm_trans m _ _ _ (gm_ext (Ext.of_below hBm)) hGm, fun p hp ha => away_put ha hin hown1 hp⟩
end Go.Proofs.YtbikicakdkbcgacGreat
