/- Contracts. -/
import Derived.Test.YtbikicakdkbcgabGreatA4
import Derived.Test.YtbikicakdkbcgabGreatR20
import Derived.Maps.AppendAt
set_option linter.unusedVariables false
set_option linter.unusedSimpArgs false
namespace Go.Proofs.YtbikicakdkbcgabGreat
open Go Go.RowKit Go.Gv Go.Fl
theorem o_append_at {α : Type} {f : α → Value} (xs ys : List α) {P : Program} {ops : Array Oper} {e : Env} {w : World} {d : Option Nat} {ty : TypeId} {pos : String} {af : Array Edge} {g : Option (Nat × Bool)} {K : Value → World → Prop} {t el : TypeId} {at_ : Array TypeId} {x y : Operand} {z : Value} {bytes base : Nat} {a a2 : Option Addr} {c c2 : Nat} (ht : P.underlying t = some (.slice el)) (he : Elem P el z 1 bytes) (hat : at_ = #[t, t])
    (hx : ev e x = .slice a xs.length c) (hown : w.ownsRow base el 1 (.slice a xs.length c) xs.length (xs.map f)) (hy : ev e y = .slice a2 ys.length c2) (hrow : Row w a2 ys.length c2 1 (ys.map f)) (hne : 0 < ys.length) (h1 : ∀ x, (f x).oneCell' = true)
    (hbytes : xs.length + ys.length ≤ 140737488355328 ∧ (xs.length + ys.length) * bytes ≤ 140737488355328) (hbase : base ≤ w.heap.size)
    (hw : wantedE ops e ⟨d, .call ⟨.builtin .append, #[x, y], at_⟩, ty, pos, af, g⟩ = true)
    (h : ∀ a' c' w', w.heap.size ≤ w'.heap.size → w'.ownsRow base el 1 (.slice a' (xs ++ ys).length c') (xs ++ ys).length ((xs ++ ys).map f) → w.grownBy w' (Value.ownBlock (.slice a xs.length c)) →
      ((Value.slice a' (xs ++ ys).length c').ownBlock = (Value.slice a xs.length c).ownBlock ∨ (Value.slice a' (xs ++ ys).length c').ownBlock = some w.heap.size) →
      K (.slice a' (xs ++ ys).length c') w') : EffAt P ops e w ⟨d, .call ⟨.builtin .append, #[x, y], at_⟩, ty, pos, af, g⟩ K := by
  subst hat
  obtain ⟨i, hi, hz, hs, hby⟩ := he.info
  rcases hrow.2.2 with h0 | ⟨b, o, ha, hc⟩
  · have h2 := congrArg List.length h0
    rw [List.length_map, List.length_nil] at h2
    omega
  · subst ha
    obtain ⟨v', w', hr, h2, h3, _, h5⟩ := run_append_own_at (P := P) (w := w) base t ty el i z 1 bytes ht hi hz hs hby he.zs he.pos (.slice a xs.length c) xs.length (xs.map f) hown ⟨b, o, none⟩ ys.length c2 (ys.map f) hrow.1
      (fun j u hj => by rw [Addr.add_lit]; exact hc j u hj) (fun u hu => by obtain ⟨q, _, rfl⟩ := List.mem_map.1 hu; exact h1 q) (by unfold maxLen; omega) hbytes.2 hbase
    obtain ⟨a', c', rfl⟩ := owns_slice h2
    refine e_value (v := .slice a' (xs.length + ys.length) c') (w' := w') hw rfl ?_ (by
      have h6 := h a' c' w' h3.size (by rw [List.length_append, List.map_append]; exact h2) h3 (by rw [List.length_append]; exact h5)
      rwa [List.length_append] at h6)
    simp [execOp, resolve, invoke, builtin, hx, hy, hr]
section
variable {cap can s0 s1 : Int} {ns : List NT} {cs ws bs : List Int} {k : Nat} {oil lt n : Int} {ys : List Int}
theorem LeastP.len (h : LeastP cap can s0 s1 ns cs ys oil lt) : ys.length ≤ ns.length := by
  cases h with
  | nil => exact Nat.zero_le _
  | snoc h1 h2 h3 h4 => rw [List.length_append, List.length_cons, List.length_nil]; omega
theorem LeastP.bnd (hok : OkS cap can s0 s1 ns) (h : LeastP cap can s0 s1 ns cs ys oil lt) : 0 ≤ lt ∧ lt ≤ 56 * (ys.length : Int) := by
  induction h with
  | nil => exact ⟨Int.le_refl _, Int.le_refl _⟩
  | snoc h1 h2 h3 h4 ih =>
    rename_i ys oil lt n
    have h5 := hok.at h2
    have h6 := cost_bnd (wk := n) h5.1 (by omega)
    rw [Int.neg_mul] at h6
    rw [List.length_append, List.length_cons, List.length_nil]
    omega
theorem LeastP.rng (h : LeastP cap can s0 s1 ns cs ys oil lt) : ∀ k, k < ys.length → (ns.getD k nt0).le ≤ ys.getD k 0 ∧ ys.getD k 0 ≤ (ns.getD k nt0).mo := by
  induction h with
  | nil => exact fun k hk => absurd hk (Nat.not_lt_zero _)
  | snoc h1 h2 h3 h4 ih =>
    rename_i ys oil lt n
    intro k hk
    rw [List.length_append, List.length_cons, List.length_nil] at hk
    by_cases hk2 : k < ys.length
    · have h5 : (ys ++ [n]).getD k 0 = ys.getD k 0 := by rw [List.getD_eq_getElem?_getD, List.getElem?_append_left hk2, ← List.getD_eq_getElem?_getD]
      rw [h5]; exact ih k hk2
    · obtain rfl : k = ys.length := by omega
      have h5 : (ys ++ [n]).getD ys.length 0 = n := by rw [List.getD_eq_getElem?_getD, List.getElem?_append_right (Nat.le_refl _), Nat.sub_self]; rfl
      rw [h5]; exact h3
theorem LeastP.wicks (h : LeastP cap can s0 s1 ns cs ys oil lt) (hl : ys.length = ns.length) : WicksP ns ys := ⟨hl, fun k hk => h.rng k (by omega)⟩
theorem LeastP.take (h : LeastP cap can s0 s1 ns cs ys oil lt) : ∀ j, j ≤ ys.length → ∃ o l, LeastP cap can s0 s1 ns cs (ys.take j) o l := by
  induction h with
  | nil => exact fun j _ => ⟨s0, 0, by rw [List.take_nil]; exact .nil⟩
  | snoc h1 h2 h3 h4 ih =>
    rename_i ys oil lt n
    intro j hj
    by_cases hj2 : j ≤ ys.length
    · obtain ⟨o, l, h5⟩ := ih j hj2
      exact ⟨o, l, by rw [List.take_append_of_le_length hj2]; exact h5⟩
    · rw [List.take_of_length_le (by rw [List.length_append, List.length_cons, List.length_nil] at hj ⊢; omega)]
      exact ⟨_, _, .snoc h1 h2 h3 h4⟩
theorem LeastP.zero (h : LeastP cap can s0 s1 ns cs (ws.take 0) oil lt) : oil = s0 := by
  rw [List.take_zero] at h
  generalize hz : ([] : List Int) = zs at h
  cases h with
  | nil => rfl
  | snoc h1 h2 h3 h4 => exact absurd hz (by simp)
theorem LeastP.zerol (h : LeastP cap can s0 s1 ns cs [] oil lt) : lt = 0 := by
  generalize hz : ([] : List Int) = zs at h
  cases h with
  | nil => rfl
  | snoc h1 h2 h3 h4 => exact absurd hz (by simp)
theorem LeastP.inv {x : Int} (h : LeastP cap can s0 s1 ns cs (ys ++ [x]) oil lt) : ∃ o l, LeastP cap can s0 s1 ns cs ys o l ∧ stB cap can s0 s1 ns cs ys.length x o = true ∧ oil = stL cap can s0 s1 ns cs ys.length x o ∧ lt = l + x * (ns.getD ys.length nt0).h := by
  generalize hz : ys ++ [x] = zs at h
  cases h with
  | nil => exact absurd hz (by simp)
  | snoc h1 h2 h3 h4 =>
    obtain ⟨rfl, h5⟩ := List.append_inj' hz rfl
    obtain rfl : x = _ := by simpa using h5
    exact ⟨_, _, h1, h4, rfl, rfl⟩
theorem want_mono {n : NT} {wk b c : Int} (h : 1 ≤ n.h ∧ n.h ≤ 14) (hw : 0 ≤ wk ∧ wk ≤ 4) (hb : b ≤ c) : wantI n wk b ≤ wantI n wk c := Int.mul_le_mul_of_nonneg_left hb (Int.mul_nonneg (by omega) hw.1)
/-- whatever is burned, there is no less oil than the least one -/
theorem lit_step {oE ltE : Int} (hok : OkS cap can s0 s1 ns) (hlp : LeastP cap can s0 s1 ns cs ws oE ltE) (hwl : ws.length = ns.length) (hk : k < ns.length) (hp : ∀ o l, LeastP cap can s0 s1 ns cs (ws.take k) o l → o ≤ oil) (hb : bs.getD k 0 ≤ (ns.getD k nt0).hi) :
    litI cap can (ns.getD k nt0) (cs.getD k 0) (ws.getD k 0) (bs.getD k 0) oil = true ∧ ∀ o l, LeastP cap can s0 s1 ns cs (ws.take (k + 1)) o l → o ≤ leftI cap can (ns.getD k nt0) (cs.getD k 0) (ws.getD k 0) (bs.getD k 0) oil := by
  have h1 := hok.at hk
  have h2 := hlp.rng k (by omega)
  have htk : ws.take (k + 1) = ws.take k ++ [ws.getD k 0] := take_succ_getD (by omega)
  have hlk : (ws.take k).length = k := by rw [List.length_take]; omega
  have hwm := want_mono (n := ns.getD k nt0) (wk := ws.getD k 0) h1.1 (by omega) hb
  have key : ∀ o l, LeastP cap can s0 s1 ns cs (ws.take (k + 1)) o l → ∃ o0, o0 ≤ oil ∧ stB cap can s0 s1 ns cs k (ws.getD k 0) o0 = true ∧ o = stL cap can s0 s1 ns cs k (ws.getD k 0) o0 := fun o l h => by
    rw [htk] at h
    obtain ⟨o0, l0, h3, h4, h5, _⟩ := h.inv
    rw [hlk] at h4 h5
    exact ⟨o0, hp _ _ h3, h4, h5⟩
  have hfm : ∀ o0, o0 ≤ oil → fillI cap can o0 (cs.getD k 0) ≤ fillI cap can oil (cs.getD k 0) := fun o0 h => by unfold fillI; omega
  constructor
  · obtain ⟨o, l, h3⟩ := hlp.take (k + 1) (by omega)
    obtain ⟨o0, h4, h5, _⟩ := key o l h3
    have h6 := hfm o0 h4
    unfold stB litI at h5
    unfold litI
    simp only [Bool.not_eq_true', decide_eq_false_iff_not, Int.not_lt] at h5 ⊢
    omega
  · intro o l h3
    obtain ⟨o0, h4, h5, rfl⟩ := key o l h3
    have h6 := hfm o0 h4
    unfold stB litI at h5
    unfold stL leftI
    simp only [Bool.not_eq_true', decide_eq_false_iff_not, Int.not_lt] at h5
    rw [if_neg (by omega), if_neg (by omega)]
    omega
theorem rep_snoc {l : List Bool} {b : Bool} (h : l = List.replicate k true) (hb : b = true) : l ++ [b] = List.replicate (k + 1) true := by
  subst h; subst hb
  exact (List.replicate_succ' ..).symm
end
def TrimP (cap can s0 s1 : Int) (ns : List NT) (cs : List Int) (w' : World) (v : Value) : Prop := ∃ ra rc X lt e, v = .tuple ⟨[.slice ra (List.length X) rc, vint lt, vint e]⟩ ∧ Row w' ra (List.length X) rc 1 (X.map vint) ∧ e = (if ch cap can s0 s1 ns cs 0 s0 < 524288 then 0 else 10) ∧ (e = 0 → ∃ oil, LeastP cap can s0 s1 ns cs X oil lt ∧ X.length = ns.length ∧ lt = - ch cap can s0 s1 ns cs 0 s0)
/-- two rows of ints in blocks apart -/
structure TwoI (w : World) (B el : Nat) (a1 : Option Addr) (c1 : Nat) (l1 : List Int) (a2 : Option Addr) (c2 : Nat) (l2 : List Int) : Prop where
  o1 : w.ownsRow B el 1 (.slice a1 l1.length c1) l1.length (l1.map vint)
  o2 : w.ownsRow B el 1 (.slice a2 l2.length c2) l2.length (l2.map vint)
  ap : ∀ g, (Value.slice a1 l1.length c1).ownBlock = some g → (Value.slice a2 l2.length c2).ownBlock ≠ some g
section
variable {w w' : World} {B el : Nat} {a1 a2 a' : Option Addr} {c1 c2 c' : Nat} {l1 l2 l : List Int}
theorem TwoI.nil (w : World) (B el : Nat) : TwoI w B el none 0 [] none 0 [] := ⟨World.ownsRow_nil _ _ _ _, World.ownsRow_nil _ _ _ _, fun g h => by cases h⟩
theorem TwoI.ext (h : TwoI w B el a1 c1 l1 a2 c2 l2) (hE : Ext w w') : TwoI w' B el a1 c1 l1 a2 c2 l2 := ⟨own_ext h.o1 hE, own_ext h.o2 hE, h.ap⟩
theorem TwoI.tyupd {b T : Nat} (h : TwoI w B el a1 c1 l1 a2 c2 l2) (ht : TyAt w b T) (hG : w.grownBy w' (some b)) (hne : el ≠ T) : TwoI w' B el a1 c1 l1 a2 c2 l2 := ⟨own_ty_upd h.o1 ht hG hne, own_ty_upd h.o2 ht hG hne, h.ap⟩
theorem TwoI.kept {base e size n : Nat} {v : Value} {xs : List Value} (h : TwoI w B el a1 c1 l1 a2 c2 l2) (ho : w.ownsRow base e size v n xs) (hne : el ≠ e) (hG : w.grownBy w' v.ownBlock) : TwoI w' B el a1 c1 l1 a2 c2 l2 := ⟨own_kept h.o1 ho hne hG, own_kept h.o2 ho hne hG, h.ap⟩
theorem TwoI.put1 (h : TwoI w B el a1 c1 l1 a2 c2 l2) (ho : w'.ownsRow B el 1 (.slice a' l.length c') l.length (l.map vint)) (hG : w.grownBy w' (Value.slice a1 l1.length c1).ownBlock) (hq : (Value.slice a' l.length c').ownBlock = (Value.slice a1 l1.length c1).ownBlock ∨ (Value.slice a' l.length c').ownBlock = some w.heap.size) : TwoI w' B el a' c' l a2 c2 l2 :=
  ⟨ho, own_keepB h.o2 (fun g hg => hG.block g (h.o2.lt g hg).2 (fun he => h.ap g he.symm hg)), fun g hg h2 => by
    rcases hq with hq | hq
    · exact h.ap g (hq ▸ hg) h2
    · rw [hq] at hg
      cases hg
      exact Nat.lt_irrefl _ (h.o2.lt _ h2).2⟩
theorem TwoI.put2 (h : TwoI w B el a1 c1 l1 a2 c2 l2) (ho : w'.ownsRow B el 1 (.slice a' l.length c') l.length (l.map vint)) (hG : w.grownBy w' (Value.slice a2 l2.length c2).ownBlock) (hq : (Value.slice a' l.length c').ownBlock = (Value.slice a2 l2.length c2).ownBlock ∨ (Value.slice a' l.length c').ownBlock = some w.heap.size) : TwoI w' B el a1 c1 l1 a' c' l :=
  ⟨own_keepB h.o1 (fun g hg => hG.block g (h.o1.lt g hg).2 (fun he => h.ap g hg he.symm)), ho, fun g hg h2 => by
    rcases hq with hq | hq
    · exact h.ap g hg (hq ▸ h2)
    · rw [hq] at h2
      cases h2
      exact Nat.lt_irrefl _ (h.o1.lt _ hg).2⟩
end


theorem trim_ret (cap can s0 s1 : Int) (sa : Option Addr) (sc : Nat) (ns : List NT) (ka : Option Addr) (kc : Nat) (cs : List Int) (w : World) (hns : Row w sa ns.length sc 5 (ns.flatMap NT.enc)) (hcs : Row w ka cs.length kc 1 (cs.map vint)) (hok : OkS cap can s0 s1 ns) (hcn : CansP ns cs) : Ret Tryz.prog 9 [.agg ⟨[vint cap, vint can, vint s0, vint s1, .slice sa ns.length sc]⟩, .slice ka cs.length kc] w (fun v w' => TrimP cap can s0 s1 ns cs w' v ∧ Ext w w') := by
 have hn6 := hok.six
 have hnl : ns.length ≤ 2097152 := by omega
 have hc6 := hcn.1
 have hcl : cs.length ≤ 2097152 := by omega
 have hB := Below.refl w.heap.size w
 have hsz : w.heap.size ≤ w.heap.size := Nat.le_refl _
 refine ret_of_runs (args := [_, _]) Tryz.func9 rfl (Nat.le_of_ble_eq_true rfl) (by kernel_rfl) (r_seq (r_region' (l_o (o_box rfl rfl rfl ?_))))
 intro b1 w1 hzl1 hzr1 _ hb1 hE1
 have hbs_b1 : w.heap.size ≤ b1 := Nat.le_trans hsz hzl1
 replace hB := below_ext hB hE1 hsz
 replace hsz := Nat.le_trans hsz hE1.size
 refine l_o (o_box rfl rfl rfl ?_)
 intro b2 w2 hzl2 hzr2 _ hb2 hE2
 have hne_b1_b2 : b1 ≠ b2 := by have := hb1.lt; omega
 have hbs_b2 : w.heap.size ≤ b2 := Nat.le_trans hsz hzl2
 replace hB := below_ext hB hE2 hsz
 replace hb1 := hb1.ext hE2
 replace hsz := Nat.le_trans hsz hE2.size
 refine l_q (qas rfl rfl) (l_q (qai rfl rfl) (l_q (qai rfl rfl) (l_nil (r_seq (r_seq (r_region' (l_q (q_load_agg (n := 5) Tryz.isAgg46 Tryz.sizeOf46 rfl ((hb1.cells' (cs' := [_, _, _, _, _]) 0 5 rfl)) rfl rfl) (l_o (o_call Tryz.call23 rfl (checkStore_ret cap can s0 s1 sa sc ns _ (hns.below hB) hnl) rfl ?_)))))))))
 rintro _ w3 ⟨rfl, hE3⟩
 replace hB := below_ext hB hE3 hsz
 replace hb1 := hb1.ext hE3
 replace hb2 := hb2.ext hE3
 replace hsz := Nat.le_trans hsz hE3.size
 refine l_q (qai rfl rfl) (l_nil (r_seq (r_region' (l_q (qmi rfl rfl) (l_q (q_neq rfl rfl rfl) (l_nil ?_))))))
 have hk4 : (!decide ((faultS cap can s0 s1 ns) = 0)) = false := by rw [faultS_0 hok]; rfl
 refine r_cond_f ((congrArg Value.bool hk4 : Value.bool _ = _)) (r_skip (r_seq (r_seq (r_region' (l_q (q_load_agg (n := 5) Tryz.isAgg46 Tryz.sizeOf46 rfl ((hb1.cells' (cs' := [_, _, _, _, _]) 0 5 rfl)) rfl rfl) (l_q (q_load Tryz.isAgg27 rfl ((hb2.has (o := 0) rfl)) rfl) (l_o (o_call Tryz.call24 rfl (cans_ret cap can s0 s1 sa sc ns ka kc cs _ (hns.below hB) hnl (hcs.below hB) hcl) rfl ?_))))))))
 rintro _ w5 ⟨rfl, hE5⟩
 replace hB := below_ext hB hE5 hsz
 replace hb1 := hb1.ext hE5
 replace hb2 := hb2.ext hE5
 replace hsz := Nat.le_trans hsz hE5.size
 refine l_q (q_not rfl rfl) (l_nil (r_forget [(2, .pointer _), (3, .pointer _), (19, .bool _)] ⟨rfl, rfl, rfl, trivial⟩ (fun e6 => ?_)))
 have hk7 : (!(decide (CansP ns cs))) = false := by rw [decide_eq_true hcn]; rfl
 refine r_cond_f ((congrArg Value.bool hk7 : Value.bool _ = _)) (r_skip (r_seq (r_region' (l_q (q_load_agg (n := 5) Tryz.isAgg46 Tryz.sizeOf46 rfl ((hb1.cells' (cs' := [_, _, _, _, _]) 0 5 rfl)) rfl rfl) (l_o (o_makeMap rfl ?_))))))
 intro m w8 hml hmr hM hE8
 have hbs_m : w.heap.size ≤ m := Nat.le_trans hsz hml
 have hMemo := memoL_nil (cap := cap) (can := can) (s0 := s0) (s1 := s1) (ns := ns) (cs := cs)
 replace hB := below_ext hB hE8 hsz
 replace hb1 := hb1.ext hE8
 replace hb2 := hb2.ext hE8
 replace hsz := Nat.le_trans hsz hE8.size
 refine l_q (q_build (v := .agg ⟨[vint cap, vint can, vint s0, vint s1, .slice sa ns.length sc, .nilFunc, .nilFunc, .nilFunc, .nilFunc, .map (some m)]⟩) (fun w => by kernel_rfl) rfl) (l_o (o_box rfl rfl rfl ?_))
 intro b9 w9 hzl9 hzr9 _ hb9 hE9
 have hne_b1_b9 : b1 ≠ b9 := by have := hb1.lt; omega
 have hne_b2_b9 : b2 ≠ b9 := by have := hb2.lt; omega
 have hne_m_b9 : m ≠ b9 := by have := hM.lt; omega
 have hbs_b9 : w.heap.size ≤ b9 := Nat.le_trans hsz hzl9
 replace hB := below_ext hB hE9 hsz
 replace hb1 := hb1.ext hE9
 replace hb2 := hb2.ext hE9
 replace hM := hM.keep (hE9.block m hM.lt (by simp))
 replace hsz := Nat.le_trans hsz hE9.size
 refine l_q (q_assign (v := .pointer _) rfl rfl) (l_nil (r_seq (r_region' (l_q (q_move (v := .pointer _) rfl rfl) (l_q (q_move (v := .pointer _) rfl rfl) (l_q (q_makeFunc (v := .func _ ⟨[]⟩ ⟨[_]⟩) rfl rfl) (l_q (q_makeFunc (v := .func _ ⟨[]⟩ ⟨[_]⟩) rfl rfl) (l_q (q_nilCheck rfl rfl) (l_q (q_fieldAddr (o' := 5) rfl fld85_1 rfl) (l_o (o_store (vs := [.func (.func 25) ⟨[]⟩ ⟨[ptr b1 0]⟩]) (cs' := [vint cap, vint can, vint s0, vint s1, .slice sa ns.length sc, .func (.func 25) ⟨[]⟩ ⟨[ptr b1 0]⟩, .nilFunc, .nilFunc, .nilFunc, .map (some m)]) Tryz.sizeOf81 rfl rfl rfl rfl hb9 (Nat.le_of_ble_eq_true rfl) rfl rfl ?_)))))))))))
 intro w10 hz10 hb9 hG10
 replace hB := below_upd hB hG10 hsz (by omega)
 replace hsz : w.heap.size ≤ w10.heap.size := by rw [hz10]; exact hsz
 replace hb1 := hb1.upd hG10 (by omega)
 replace hb2 := hb2.upd hG10 (by omega)
 replace hM := hM.keep (hG10.block m hM.lt (by simp; omega))
 refine l_q (q_nilCheck rfl rfl) (l_q (q_fieldAddr (o' := 6) rfl fld85_2 rfl) (l_o (o_store (vs := [.func (.func 26) ⟨[]⟩ ⟨[ptr b1 0]⟩]) (cs' := [vint cap, vint can, vint s0, vint s1, .slice sa ns.length sc, .func (.func 25) ⟨[]⟩ ⟨[ptr b1 0]⟩, .func (.func 26) ⟨[]⟩ ⟨[ptr b1 0]⟩, .nilFunc, .nilFunc, .map (some m)]) Tryz.sizeOf81 rfl rfl rfl rfl hb9 (Nat.le_of_ble_eq_true rfl) rfl rfl ?_)))
 intro w11 hz11 hb9 hG11
 replace hB := below_upd hB hG11 hsz (by omega)
 replace hsz : w.heap.size ≤ w11.heap.size := by rw [hz11]; exact hsz
 replace hb1 := hb1.upd hG11 (by omega)
 replace hb2 := hb2.upd hG11 (by omega)
 replace hM := hM.keep (hG11.block m hM.lt (by simp; omega))
 refine l_nil (r_forget [(2, .pointer _), (3, .pointer _), (8, .pointer _)] ⟨rfl, rfl, rfl, trivial⟩ (fun e12 => (r_seq (r_region' (l_q (q_move (v := .pointer _) rfl rfl) (l_q (q_makeFunc (v := .func _ ⟨[]⟩ ⟨[_]⟩) rfl rfl) (l_q (q_nilCheck rfl rfl) (l_q (q_fieldAddr (o' := 7) rfl fld85_3 rfl) (l_o (o_store (vs := [.func (.func 27) ⟨[]⟩ ⟨[ptr b1 0]⟩]) (cs' := [vint cap, vint can, vint s0, vint s1, .slice sa ns.length sc, .func (.func 25) ⟨[]⟩ ⟨[ptr b1 0]⟩, .func (.func 26) ⟨[]⟩ ⟨[ptr b1 0]⟩, .func (.func 27) ⟨[]⟩ ⟨[ptr b1 0]⟩, .nilFunc, .map (some m)]) Tryz.sizeOf82 rfl rfl rfl rfl hb9 (Nat.le_of_ble_eq_true rfl) rfl rfl ?_))))))))))
 intro w13 hz13 hb9 hG13
 replace hB := below_upd hB hG13 hsz (by omega)
 replace hsz : w.heap.size ≤ w13.heap.size := by rw [hz13]; exact hsz
 replace hb1 := hb1.upd hG13 (by omega)
 replace hb2 := hb2.upd hG13 (by omega)
 replace hM := hM.keep (hG13.block m hM.lt (by simp; omega))
 refine l_nil (r_seq (r_region' (l_q (q_move (v := .pointer _) rfl rfl) (l_q (q_makeFunc (v := .func _ ⟨[]⟩ ⟨[_]⟩) rfl rfl) (l_q (q_nilCheck rfl rfl) (l_q (q_fieldAddr (o' := 8) rfl fld85_4 rfl) (l_o (o_store (vs := [.func (.func 28) ⟨[]⟩ ⟨[ptr b2 0]⟩]) (cs' := [vint cap, vint can, vint s0, vint s1, .slice sa ns.length sc, .func (.func 25) ⟨[]⟩ ⟨[ptr b1 0]⟩, .func (.func 26) ⟨[]⟩ ⟨[ptr b1 0]⟩, .func (.func 27) ⟨[]⟩ ⟨[ptr b1 0]⟩, .func (.func 28) ⟨[]⟩ ⟨[ptr b2 0]⟩, .map (some m)]) Tryz.sizeOf83 rfl rfl rfl rfl hb9 (Nat.le_of_ble_eq_true rfl) rfl rfl ?_))))))))
 intro w14 hz14 hb9 hG14
 replace hB := below_upd hB hG14 hsz (by omega)
 replace hsz : w.heap.size ≤ w14.heap.size := by rw [hz14]; exact hsz
 replace hb1 := hb1.upd hG14 (by omega)
 replace hb2 := hb2.upd hG14 (by omega)
 replace hM := hM.keep (hG14.block m hM.lt (by simp; omega))
 refine l_nil (r_forget [(8, .pointer _)] ⟨rfl, trivial⟩ (fun e15 => (r_seq (r_region' (l_q (q_move (v := .pointer _) rfl rfl) (l_o (o_call Tryz.call29 rfl (lbest_ret cap can s0 s1 sa sc ns ka kc cs b9 b1 b2 m _ _ _ hok hcn ⟨hb9, hb1, hb2, hns.below hB, hcs.below hB⟩ hM hMemo) rfl ?_)))))))
 rintro _ w16 ⟨⟨ra, rc, X, C, is, rfl, hX, his, hLP⟩, hGb⟩
 replace hB := below_upd_any hB hGb hbs_m hsz
 replace hsz := Nat.le_trans hsz hGb.size
 refine l_q (q_move (v := .tuple _) rfl rfl) (l_q (q_extract (vs := [_, _, _]) (v := .slice _ _ _) rfl rfl rfl) (l_q (q_extract (vs := [_, _, _]) (v := .int _ _) rfl rfl rfl) (l_q (q_extract (vs := [_, _, _]) (v := .bool _) rfl rfl rfl) (l_q (qas rfl rfl) (l_q (qai rfl rfl) (l_q (qab rfl rfl) (l_nil (r_seq (r_seq (r_region' (l_q (qmb rfl rfl) (l_q (q_not rfl rfl) (l_nil (r_cond rfl (fun hc17 => ?_) (fun hc17 => ?_)))))))))))))))
 ·
  replace hc17 := nt hc17
  have hch : ¬ ch cap can s0 s1 ns cs 0 s0 < 524288 := of_decide_eq_false (his ▸ hc17)
  refine r_seq (r_region' (l_q (qas rfl rfl) (l_q (qai rfl rfl) (l_q (qai rfl rfl) (l_nil (r_forget [(4, .slice _ _ _), (5, .int _ _), (6, .int _ _)] ⟨rfl, rfl, rfl, trivial⟩ (fun e18 => (r_ret_ (vs := [.slice _ _ _, .int _ _, .int _ _]) rfl Tryz.func9 rfl (.nil _) ⟨rfl, rfl, rfl, trivial⟩ ?_))))))))
  exact ⟨⟨none, 0, [], 0, 10, rfl, Row.nil _ _ _ _, (if_neg hch).symm, fun h => absurd h (by decide)⟩, Ext.of_below hB⟩
 ·
  replace hc17 := nf hc17
  obtain ⟨oil, lt, hlp, hXl, hC, hCc⟩ := hLP hc17
  have hltb := hlp.bnd hok
  have hch : ch cap can s0 s1 ns cs 0 s0 < 524288 := of_decide_eq_true (his ▸ hc17)
  refine r_skip (r_seq (r_region' (l_q (qms rfl rfl) (l_q (qmi rfl rfl) (l_q (q_neg rfl (by omega) rfl) (l_q (qas rfl rfl) (l_q (qai rfl rfl) (l_q (qai rfl rfl) (l_nil (r_forget [(4, .slice _ _ _), (5, .int _ _), (6, .int _ _)] ⟨rfl, rfl, rfl, trivial⟩ (fun e19 => (r_ret_ (vs := [.slice _ _ _, .int _ _, .int _ _]) rfl Tryz.func9 rfl (.nil _) ⟨rfl, rfl, rfl, trivial⟩ ?_))))))))))))
  have hlx : lt = 0 - C := by omega
  rw [hlx] at hlp
  exact ⟨⟨_, _, X, 0 - C, 0, rfl, hX, (if_pos hch).symm, fun _ => ⟨oil, hlp, hXl, by omega⟩⟩, Ext.of_below hB⟩
theorem play_ret (cap can s0 s1 : Int) (sa : Option Addr) (sc : Nat) (ns : List NT) (ka : Option Addr) (kc : Nat) (cs : List Int) (va : Option Addr) (vc : Nat) (ws : List Int) (st : Int) (ba : Option Addr) (bc : Nat) (bs : List Int) (oE ltE : Int) (w : World) (hns : Row w sa ns.length sc 5 (ns.flatMap NT.enc)) (hcs : Row w ka cs.length kc 1 (cs.map vint)) (hws : Row w va ws.length vc 1 (ws.map vint)) (hbs : Row w ba bs.length bc 1 (bs.map vint)) (hok : OkS cap can s0 s1 ns) (hcn : CansP ns cs) (hwp : WicksP ns ws) (hbp : BurnP ns bs) (hst : s0 ≤ st ∧ st ≤ s1) (hlp : LeastP cap can s0 s1 ns cs ws oE ltE) : Ret Tryz.prog 14 [.agg ⟨[vint cap, vint can, vint s0, vint s1, .slice sa ns.length sc]⟩, .agg ⟨[.slice ka cs.length kc, .slice va ws.length vc]⟩, .agg ⟨[vint st, .slice ba bs.length bc]⟩] w (fun v w' => ∃ a1 n1 c1 a2 n2 c2 la lc, v = .tuple ⟨[.slice a1 n1 c1, .slice a2 n2 c2, .slice la (List.replicate ns.length true).length lc, vint 0]⟩ ∧ Row w' la (List.replicate ns.length true).length lc 1 ((List.replicate ns.length true).map Value.bool) ∧ Ext w w') := by
 have hn6 := hok.six
 have hnl : ns.length ≤ 2097152 := by omega
 have hc6 := hcn.1
 have hcl : cs.length ≤ 2097152 := by omega
 have hwl6 := hwp.1
 have hwl : ws.length ≤ 2097152 := by omega
 have hbl6 := hbp.1
 have hbl : bs.length ≤ 2097152 := by omega
 have hst0 := hok.st
 have hcap := hok.cap1
 have hB := Below.refl w.heap.size w
 have hsz : w.heap.size ≤ w.heap.size := Nat.le_refl _
 refine ret_of_runs (args := [_, _, _]) Tryz.func14 rfl (Nat.le_of_ble_eq_true rfl) (by kernel_rfl) (r_seq (r_region' (l_o (o_boxt rfl rfl rfl ?_))))
 intro b1 w1 hzl1 hzr1 _ hb1 hty_b1 hE1
 have hbs_b1 : w.heap.size ≤ b1 := Nat.le_trans hsz hzl1
 replace hB := below_ext hB hE1 hsz
 replace hsz := Nat.le_trans hsz hE1.size
 refine l_o (o_boxt rfl rfl rfl ?_)
 intro b2 w2 hzl2 hzr2 _ hb2 hty_b2 hE2
 have hne_b1_b2 : b1 ≠ b2 := by have := hb1.lt; omega
 have hbs_b2 : w.heap.size ≤ b2 := Nat.le_trans hsz hzl2
 replace hB := below_ext hB hE2 hsz
 replace hb1 := hb1.ext hE2
 replace hty_b1 := hty_b1.ext hE2
 replace hsz := Nat.le_trans hsz hE2.size
 refine l_o (o_boxt rfl rfl rfl ?_)
 intro b3 w3 hzl3 hzr3 _ hb3 hty_b3 hE3
 have hne_b1_b3 : b1 ≠ b3 := by have := hb1.lt; omega
 have hne_b2_b3 : b2 ≠ b3 := by have := hb2.lt; omega
 have hbs_b3 : w.heap.size ≤ b3 := Nat.le_trans hsz hzl3
 replace hB := below_ext hB hE3 hsz
 replace hb1 := hb1.ext hE3
 replace hty_b1 := hty_b1.ext hE3
 replace hb2 := hb2.ext hE3
 replace hty_b2 := hty_b2.ext hE3
 replace hsz := Nat.le_trans hsz hE3.size
 refine l_q (qas rfl rfl) (l_q (qas rfl rfl) (l_q (qas rfl rfl) (l_q (qai rfl rfl) (l_nil (r_seq (r_seq (r_region' (l_q (q_load_agg (n := 5) Tryz.isAgg46 Tryz.sizeOf46 rfl ((hb1.cells' (cs' := [_, _, _, _, _]) 0 5 rfl)) rfl rfl) (l_q (q_load_agg (n := 2) Tryz.isAgg57 Tryz.sizeOf57 rfl ((hb2.cells' (cs' := [_, _]) 0 2 rfl)) rfl rfl) (l_o (o_call Tryz.call34 rfl (lcheck_ret cap can s0 s1 sa sc ns ka kc cs va vc ws _ (hns.below hB) hnl (hcs.below hB) hcl (hws.below hB) hwl) rfl ?_)))))))))))
 rintro _ w4 ⟨rfl, hE4⟩
 replace hB := below_ext hB hE4 hsz
 replace hb1 := hb1.ext hE4
 replace hty_b1 := hty_b1.ext hE4
 replace hb2 := hb2.ext hE4
 replace hty_b2 := hty_b2.ext hE4
 replace hb3 := hb3.ext hE4
 replace hty_b3 := hty_b3.ext hE4
 replace hsz := Nat.le_trans hsz hE4.size
 refine l_q (qai rfl rfl) (l_nil (r_seq (r_region' (l_q (qmi rfl rfl) (l_q (q_neq rfl rfl rfl) (l_nil ?_))))))
 have hk5 : (!decide ((if faultS cap can s0 s1 ns = 0 then (if CansP ns cs ∧ WicksP ns ws then 0 else 2) else faultS cap can s0 s1 ns) = 0)) = false := by rw [if_pos (faultS_0 hok), if_pos ⟨hcn, hwp⟩]; rfl
 refine r_cond_f ((congrArg Value.bool hk5 : Value.bool _ = _)) (r_skip (r_seq (r_seq (r_region' (l_q (q_load_agg (n := 5) Tryz.isAgg46 Tryz.sizeOf46 rfl ((hb1.cells' (cs' := [_, _, _, _, _]) 0 5 rfl)) rfl rfl) (l_q (q_load_agg (n := 2) Tryz.isAgg58 Tryz.sizeOf58 rfl ((hb3.cells' (cs' := [_, _]) 0 2 rfl)) rfl rfl) (l_o (o_call Tryz.call35 rfl (ltruth_ret cap can s0 s1 sa sc ns st ba bc bs _ (hns.below hB) hnl (hbs.below hB) hbl) rfl ?_))))))))
 rintro _ w6 ⟨rfl, hE6⟩
 replace hB := below_ext hB hE6 hsz
 replace hb1 := hb1.ext hE6
 replace hty_b1 := hty_b1.ext hE6
 replace hb2 := hb2.ext hE6
 replace hty_b2 := hty_b2.ext hE6
 replace hb3 := hb3.ext hE6
 replace hty_b3 := hty_b3.ext hE6
 replace hsz := Nat.le_trans hsz hE6.size
 refine l_q (q_not rfl rfl) (l_nil (r_forget [(3, .pointer _), (4, .pointer _), (5, .pointer _), (6, .slice _ _ _), (7, .slice _ _ _), (8, .slice _ _ _), (27, .bool _)] ⟨rfl, rfl, rfl, rfl, rfl, rfl, rfl, trivial⟩ (fun e7 => ?_)))
 have hk8 : (!(decide ((s0 ≤ st ∧ st ≤ s1) ∧ BurnP ns bs))) = false := by rw [decide_eq_true ⟨hst, hbp⟩]; rfl
 refine r_cond_f ((congrArg Value.bool hk8 : Value.bool _ = _)) (r_skip (r_seq (r_region' (l_q (q_fieldAddr (o' := 0) rfl fld58_0 rfl) (l_q (q_load Tryz.isAgg3 rfl ((hb3.has (o := 0) rfl)) rfl) (l_q (qai rfl rfl) (l_nil (r_seq (r_seq (r_region' (l_q (q_fieldAddr (o' := 4) rfl fld46_3 rfl) (l_q (q_load Tryz.isAgg44 rfl ((hb1.has (o := 4) rfl)) rfl) (l_q (q_len rfl Tryz.underlying44 rfl rfl) (l_q (qmi rfl rfl) (l_nil (r_block ?_))))))))))))))))
 refine r_rounds (α := Nat × Int × (Option Addr) × Nat × (List Int) × (Option Addr) × Nat × (List Int) × (Option Addr) × Nat × (List Bool)) (fun ⟨k, oil, a1, c1, l1, a2, c2, l2, a3, c3, l3⟩ e wl => Knows e [(3, ptr b1 0), (4, ptr b2 0), (5, ptr b3 0), (6, .slice a1 ((l1).length) c1), (7, .slice a2 ((l2).length) c2), (8, .slice a3 ((l3).length) c3), (11, vint oil), (31, .slice sa ns.length sc), (32, vint (ns.length : Int)), (33, vint (k : Int))] ∧ (k ≤ ns.length) ∧ (0 ≤ oil ∧ oil ≤ 400) ∧ (∀ o l, LeastP cap can s0 s1 ns cs (ws.take k) o l → o ≤ oil) ∧ (l1.length = k) ∧ (l2.length = k) ∧ (l3 = List.replicate k true) ∧ (TwoI wl w.heap.size 3 a1 c1 l1 a2 c2 l2) ∧ (wl.ownsRow w.heap.size 4 1 (.slice a3 ((l3).length) c3) ((l3).length) ((l3).map Value.bool)) ∧ (Blk wl b1 [vint cap, vint can, vint s0, vint s1, .slice sa ns.length sc]) ∧ (TyAt wl b1 46) ∧ (Blk wl b2 [.slice ka cs.length kc, .slice va ws.length vc]) ∧ (TyAt wl b2 57) ∧ (Blk wl b3 [vint st, .slice ba bs.length bc]) ∧ (TyAt wl b3 58) ∧ (w.heap.size ≤ wl.heap.size) ∧ (Below w.heap.size w wl)) (fun ⟨k, oil, a1, c1, l1, a2, c2, l2, a3, c3, l3⟩ => ns.length - k) ⟨0, st, none, 0, [], none, 0, [], none, 0, []⟩ ?_ ?_
 ·
  exact ⟨⟨rfl, rfl, rfl, rfl, rfl, rfl, rfl, rfl, rfl, rfl, trivial⟩, (Nat.zero_le _), ⟨by omega, by omega⟩, (fun o l h => by have := h.zero; omega), rfl, rfl, rfl, (TwoI.nil _ _ _), (World.ownsRow_nil _ _ _ _), hb1, hty_b1, hb2, hty_b2, hb3, hty_b3, hsz, hB⟩
 ·
  rintro ⟨k, oil, a1, c1, l1, a2, c2, l2, a3, c3, l3⟩ el9 wl9 ⟨hkn, hkn2, hoil, hpo, hl1, hl2, hl3, hT, ho3, hb1, hty_b1, hb2, hty_b2, hb3, hty_b3, hsz, hB⟩ ih9
  obtain ⟨e9, rfl⟩ := knows_env hkn
  refine r_seq (r_region' (l_q (q_lss rfl rfl rfl) (l_nil (r_seq (r_cond rfl (fun hc10 => ?_) (fun hc10 => ?_))))))
  ·
   replace hc10 := dt hc10
   have hkn : k < ns.length := by omega
   obtain ⟨hq1, hq2, hq3⟩ := hok.at hkn
   have hck := hcn.2 k (by omega)
   have hwk := hwp.2 k hkn
   have hbk := hbp.2 k hkn
   obtain ⟨hf1, hf2, hf3, hf4⟩ := fill_bnd hok.cap1 hok.can1 hoil hck
   obtain ⟨hlit, hpn⟩ := lit_step (bs := bs) hok hlp hwl6 hkn hpo hbk.2
   have hlb := left_bnd (n := (ns.getD k nt0)) (wk := (ws.getD k 0)) (b := (bs.getD k 0)) ⟨hf3, hf4⟩ (want_bnd hq1 (by omega) (by omega)).2.2.1
   refine r_skip (r_seq (r_block (r_seq (r_region' (l_q (qmi rfl rfl) ?_)))))
   obtain ⟨b11, o11, ha11, hh11⟩ := (hns.below hB).at (by decide) k (by omega)
   refine l_q (q_indexAddr Tryz.underlying44 Tryz.sizeOf75 rfl ha11 rfl (by omega) rfl) (l_q (q_load_agg (cs := [vint (((ns).getD k nt0).h), vint (((ns).getD k nt0).le), vint (((ns).getD k nt0).mo), vint (((ns).getD k nt0).lo), vint (((ns).getD k nt0).hi)]) (n := 5) Tryz.isAgg75 Tryz.sizeOf75 rfl ((cells_cast (wide_at NT.len nt0 _ _ (by omega)) hh11)) rfl rfl) (l_o (o_alloct Tryz.zeroValue75 rfl rfl ?_)))
   intro b12 w12 hzl12 hzr12 _ hb12 hty_b12 hE12
   have hne_b1_b12 : b1 ≠ b12 := by have := hb1.lt; omega
   have hne_b2_b12 : b2 ≠ b12 := by have := hb2.lt; omega
   have hne_b3_b12 : b3 ≠ b12 := by have := hb3.lt; omega
   have hbs_b12 : w.heap.size ≤ b12 := Nat.le_trans hsz hzl12
   replace hB := below_ext hB hE12 hsz
   replace hb1 := hb1.ext hE12
   replace hty_b1 := hty_b1.ext hE12
   replace hb2 := hb2.ext hE12
   replace hty_b2 := hty_b2.ext hE12
   replace hb3 := hb3.ext hE12
   replace hty_b3 := hty_b3.ext hE12
   replace hT := hT.ext hE12
   replace ho3 := own_ext ho3 hE12
   replace hsz := Nat.le_trans hsz hE12.size
   refine l_q (qai rfl rfl) (l_o (o_storet (vs := [vint (((ns).getD k nt0).h), vint (((ns).getD k nt0).le), vint (((ns).getD k nt0).mo), vint (((ns).getD k nt0).lo), vint (((ns).getD k nt0).hi)]) (cs' := [vint (((ns).getD k nt0).h), vint (((ns).getD k nt0).le), vint (((ns).getD k nt0).mo), vint (((ns).getD k nt0).lo), vint (((ns).getD k nt0).hi)]) Tryz.sizeOf75 rfl rfl rfl rfl hb12 (Nat.le_of_ble_eq_true rfl) rfl rfl ?_))
   intro w13 hz13 hb12 hT13 hG13
   replace hB := below_upd hB hG13 hsz (by omega)
   replace hsz : w.heap.size ≤ w13.heap.size := by rw [hz13]; exact hsz
   replace hb1 := hb1.upd hG13 (by omega)
   replace hty_b1 := hty_b1.upd hG13 (by omega)
   replace hb2 := hb2.upd hG13 (by omega)
   replace hty_b2 := hty_b2.upd hG13 (by omega)
   replace hb3 := hb3.upd hG13 (by omega)
   replace hty_b3 := hty_b3.upd hG13 (by omega)
   replace hT := TwoI.tyupd hT hty_b12 hG13 (by decide)
   replace ho3 := own_ty_upd ho3 hty_b12 hG13 (by decide)
   replace hty_b12 := hT13 _ hty_b12
   refine l_nil (r_seq (r_draw ext_refl' ext_trans' [0, 1, 2, 3, 4, 5, 6, 7, 8, 9, 10, 11, 12] [7] 12 (by kernel_rfl) (by kernel_rfl) ?_))
   intro w14 _ hE14
   replace hB := below_ext hB hE14 hsz
   replace hb1 := hb1.ext hE14
   replace hty_b1 := hty_b1.ext hE14
   replace hb2 := hb2.ext hE14
   replace hty_b2 := hty_b2.ext hE14
   replace hb3 := hb3.ext hE14
   replace hty_b3 := hty_b3.ext hE14
   replace hT := hT.ext hE14
   replace ho3 := own_ext ho3 hE14
   replace hb12 := hb12.ext hE14
   replace hty_b12 := hty_b12.ext hE14
   replace hsz := Nat.le_trans hsz hE14.size
   refine m_q rfl rfl (fun w' hC' => q_load_agg (n := 5) Tryz.isAgg46 Tryz.sizeOf46 rfl (((hb1.cells' (cs' := [_, _, _, _, _]) 0 5 rfl).ext hC')) rfl rfl) (m_q rfl rfl (fun w' hC' => qmi rfl rfl) (m_q rfl rfl (fun w' hC' => q_fieldAddr (o' := 0) rfl fld57_0 rfl) (m_q rfl rfl (fun w' hC' => q_load Tryz.isAgg27 rfl (((hb2.has (o := 0) rfl).ext hC')) rfl) (m_q rfl rfl (fun w' hC' => qmi rfl rfl) ?_))))
   obtain ⟨b15, o15, ha15, hh15⟩ := (hcs.below hB).at1 k ((cs).getD k 0) (getD_some (by omega))
   refine m_q rfl rfl (fun w' hC' => q_indexAddr1 Tryz.underlying27 Tryz.sizeOf3 rfl ha15 rfl (by omega) rfl) (m_q rfl rfl (fun w' hC' => q_load Tryz.isAgg3 rfl ((hh15.ext hC')) rfl) (m_o rfl rfl (o_call Tryz.call36 rfl (filled_ret cap can s0 s1 sa sc ns oil (cs.getD k 0) _ hok.cap1 hok.can1 hoil hck) rfl ?_)))
   rintro _ w16 ⟨rfl, hE16⟩
   refine ⟨hE16, ?_⟩
   replace hB := below_ext hB hE16 hsz
   replace hb1 := hb1.ext hE16
   replace hty_b1 := hty_b1.ext hE16
   replace hb2 := hb2.ext hE16
   replace hty_b2 := hty_b2.ext hE16
   replace hb3 := hb3.ext hE16
   replace hty_b3 := hty_b3.ext hE16
   replace hT := hT.ext hE16
   replace ho3 := own_ext ho3 hE16
   replace hb12 := hb12.ext hE16
   replace hty_b12 := hty_b12.ext hE16
   replace hsz := Nat.le_trans hsz hE16.size
   refine m_q rfl rfl (fun w' hC' => q_move (v := .tuple _) rfl rfl) (m_q rfl rfl (fun w' hC' => q_extract (vs := [_, _]) (v := .int _ _) rfl rfl rfl) (m_q rfl rfl (fun w' hC' => q_extract (vs := [_, _]) (v := .int _ _) rfl rfl rfl) (m_q rfl rfl (fun w' hC' => qai rfl rfl) (m_q rfl rfl (fun w' hC' => qai rfl rfl) (m_nil (r_forget [(3, .pointer _), (4, .pointer _), (5, .pointer _), (6, .slice _ _ _), (7, .slice _ _ _), (8, .slice _ _ _), (12, .int _ _), (13, .pointer _), (14, .int _ _), (15, .int _ _), (31, .slice _ _ _), (32, .int _ _), (33, .int _ _)] ⟨rfl, rfl, rfl, rfl, rfl, rfl, rfl, rfl, rfl, rfl, rfl, rfl, rfl, trivial⟩ (fun e17 => (r_seq (r_draw ext_refl' ext_trans' [0, 1, 2, 3, 4, 5, 6, 7, 8, 9, 10, 11, 12, 13, 14, 15, 16, 17] [12] 18 (by kernel_rfl) (by kernel_rfl) ?_)))))))))
   intro w18 _ hE18
   replace hB := below_ext hB hE18 hsz
   replace hb1 := hb1.ext hE18
   replace hty_b1 := hty_b1.ext hE18
   replace hb2 := hb2.ext hE18
   replace hty_b2 := hty_b2.ext hE18
   replace hb3 := hb3.ext hE18
   replace hty_b3 := hty_b3.ext hE18
   replace hT := hT.ext hE18
   replace ho3 := own_ext ho3 hE18
   replace hb12 := hb12.ext hE18
   replace hty_b12 := hty_b12.ext hE18
   replace hsz := Nat.le_trans hsz hE18.size
   refine m_q rfl rfl (fun w' hC' => q_load_agg (n := 5) Tryz.isAgg75 Tryz.sizeOf75 rfl (((hb12.cells' (cs' := [_, _, _, _, _]) 0 5 rfl).ext hC')) rfl rfl) (m_q rfl rfl (fun w' hC' => qmi rfl rfl) (m_q rfl rfl (fun w' hC' => q_fieldAddr (o' := 1) rfl fld57_1 rfl) (m_q rfl rfl (fun w' hC' => q_load Tryz.isAgg27 rfl (((hb2.has (o := 1) rfl).ext hC')) rfl) (m_q rfl rfl (fun w' hC' => qmi rfl rfl) ?_))))
   obtain ⟨b19, o19, ha19, hh19⟩ := (hws.below hB).at1 k ((ws).getD k 0) (getD_some (by omega))
   refine m_q rfl rfl (fun w' hC' => q_indexAddr1 Tryz.underlying27 Tryz.sizeOf3 rfl ha19 rfl (by omega) rfl) (m_q rfl rfl (fun w' hC' => q_load Tryz.isAgg3 rfl ((hh19.ext hC')) rfl) (m_q rfl rfl (fun w' hC' => q_fieldAddr (o' := 1) rfl fld58_1 rfl) (m_q rfl rfl (fun w' hC' => q_load Tryz.isAgg27 rfl (((hb3.has (o := 1) rfl).ext hC')) rfl) (m_q rfl rfl (fun w' hC' => qmi rfl rfl) ?_))))
   obtain ⟨b20, o20, ha20, hh20⟩ := (hbs.below hB).at1 k ((bs).getD k 0) (getD_some (by omega))
   refine m_q rfl rfl (fun w' hC' => q_indexAddr1 Tryz.underlying27 Tryz.sizeOf3 rfl ha20 rfl (by omega) rfl) (m_q rfl rfl (fun w' hC' => q_load Tryz.isAgg3 rfl ((hh20.ext hC')) rfl) (m_o rfl rfl (o_call Tryz.call37 rfl (burned_ret (ns.getD k nt0) (fillI cap can oil (cs.getD k 0)) (ws.getD k 0) (bs.getD k 0) _ hq1 (by omega) (by omega) (by omega)) rfl ?_)))
   rintro _ w21 ⟨rfl, hE21⟩
   refine ⟨hE21, ?_⟩
   replace hB := below_ext hB hE21 hsz
   replace hb1 := hb1.ext hE21
   replace hty_b1 := hty_b1.ext hE21
   replace hb2 := hb2.ext hE21
   replace hty_b2 := hty_b2.ext hE21
   replace hb3 := hb3.ext hE21
   replace hty_b3 := hty_b3.ext hE21
   replace hT := hT.ext hE21
   replace ho3 := own_ext ho3 hE21
   replace hb12 := hb12.ext hE21
   replace hty_b12 := hty_b12.ext hE21
   replace hsz := Nat.le_trans hsz hE21.size
   refine m_q rfl rfl (fun w' hC' => q_move (v := .tuple _) rfl rfl) (m_q rfl rfl (fun w' hC' => q_extract (vs := [_, _]) (v := .int _ _) rfl rfl rfl) (m_q rfl rfl (fun w' hC' => q_extract (vs := [_, _]) (v := .bool _) rfl rfl rfl) (m_q rfl rfl (fun w' hC' => qai rfl rfl) (m_q rfl rfl (fun w' hC' => qab rfl rfl) (m_nil (r_forget [(3, .pointer _), (4, .pointer _), (5, .pointer _), (6, .slice _ _ _), (7, .slice _ _ _), (8, .slice _ _ _), (15, .int _ _), (16, .int _ _), (17, .bool _), (31, .slice _ _ _), (32, .int _ _), (33, .int _ _)] ⟨rfl, rfl, rfl, rfl, rfl, rfl, rfl, rfl, rfl, rfl, rfl, rfl, trivial⟩ (fun e22 => ?_)))))))
   have hl3n : l3.length = k := by rw [hl3, List.length_replicate]
   refine r_region' (l_q (qms rfl rfl) (l_q (qmi rfl rfl) (l_o (o_buildSlice (el := 3) (cs := [vint (leftI cap can (ns.getD k nt0) (cs.getD k 0) (ws.getD k 0) (bs.getD k 0) oil)]) Tryz.underlying27 el3 (by decide) (by kernel_rfl) rfl (by decide) rfl ?_))))
   intro b23 w23 hzl23 hzr23 _ hb23 hE23 ho23
   have hne_b1_b23 : b1 ≠ b23 := by have := hb1.lt; omega
   have hne_b2_b23 : b2 ≠ b23 := by have := hb2.lt; omega
   have hne_b3_b23 : b3 ≠ b23 := by have := hb3.lt; omega
   have hne_b12_b23 : b12 ≠ b23 := by have := hb12.lt; omega
   have hbs_b23 : w.heap.size ≤ b23 := Nat.le_trans hsz hzl23
   replace hB := below_ext hB hE23 hsz
   replace hb1 := hb1.ext hE23
   replace hty_b1 := hty_b1.ext hE23
   replace hb2 := hb2.ext hE23
   replace hty_b2 := hty_b2.ext hE23
   replace hb3 := hb3.ext hE23
   replace hty_b3 := hty_b3.ext hE23
   replace hT := hT.ext hE23
   replace ho3 := own_ext ho3 hE23
   replace hb12 := hb12.ext hE23
   replace hty_b12 := hty_b12.ext hE23
   replace hsz := Nat.le_trans hsz hE23.size
   refine l_o (o_append_at (f := vint) l1 ([leftI cap can (ns.getD k nt0) (cs.getD k 0) (ws.getD k 0) (bs.getD k 0) oil]) Tryz.underlying27 el3 rfl rfl hT.o1 rfl (Row.of_owns ho23) (Nat.zero_lt_succ _) (fun _ => rfl) (by (try simp only [List.length_append, List.length_cons, List.length_nil]); omega) (by omega) rfl ?_)
   intro a24 c24 w24 hz24 ho24 hG24 hq24
   replace hB := below_own hB hG24 hT.o1 (by omega) hsz
   replace hsz := Nat.le_trans hsz hG24.size
   replace hb1 := hb1.step hG24 (own_ty_ne hT.o1 hty_b1 (by decide))
   replace hb2 := hb2.step hG24 (own_ty_ne hT.o1 hty_b2 (by decide))
   replace hb3 := hb3.step hG24 (own_ty_ne hT.o1 hty_b3 (by decide))
   replace ho3 := own_kept ho3 hT.o1 (by decide) hG24
   replace hb12 := hb12.step hG24 (own_ty_ne hT.o1 hty_b12 (by decide))
   replace hty_b1 := TyAt.own hty_b1 hT.o1 hG24 (by decide)
   replace hty_b2 := TyAt.own hty_b2 hT.o1 hG24 (by decide)
   replace hty_b3 := TyAt.own hty_b3 hT.o1 hG24 (by decide)
   replace hty_b12 := TyAt.own hty_b12 hT.o1 hG24 (by decide)
   replace hT := hT.put1 ho24 hG24 hq24
   refine l_q (qms rfl rfl) (l_q (qmi rfl rfl) (l_o (o_buildSlice (el := 3) (cs := [vint (oil + (cs.getD k 0) * can - fillI cap can oil (cs.getD k 0))]) Tryz.underlying27 el3 (by decide) (by kernel_rfl) rfl (by decide) rfl ?_)))
   intro b25 w25 hzl25 hzr25 _ hb25 hE25 ho25
   have hne_b1_b25 : b1 ≠ b25 := by have := hb1.lt; omega
   have hne_b2_b25 : b2 ≠ b25 := by have := hb2.lt; omega
   have hne_b3_b25 : b3 ≠ b25 := by have := hb3.lt; omega
   have hne_b12_b25 : b12 ≠ b25 := by have := hb12.lt; omega
   have hbs_b25 : w.heap.size ≤ b25 := Nat.le_trans hsz hzl25
   replace hB := below_ext hB hE25 hsz
   replace hb1 := hb1.ext hE25
   replace hty_b1 := hty_b1.ext hE25
   replace hb2 := hb2.ext hE25
   replace hty_b2 := hty_b2.ext hE25
   replace hb3 := hb3.ext hE25
   replace hty_b3 := hty_b3.ext hE25
   replace ho3 := own_ext ho3 hE25
   replace hb12 := hb12.ext hE25
   replace hty_b12 := hty_b12.ext hE25
   replace hT := hT.ext hE25
   replace hsz := Nat.le_trans hsz hE25.size
   refine l_o (o_append_at (f := vint) l2 ([oil + (cs.getD k 0) * can - fillI cap can oil (cs.getD k 0)]) Tryz.underlying27 el3 rfl rfl hT.o2 rfl (Row.of_owns ho25) (Nat.zero_lt_succ _) (fun _ => rfl) (by (try simp only [List.length_append, List.length_cons, List.length_nil]); omega) (by omega) rfl ?_)
   intro a26 c26 w26 hz26 ho26 hG26 hq26
   replace hB := below_own hB hG26 hT.o2 (by omega) hsz
   replace hsz := Nat.le_trans hsz hG26.size
   replace hb1 := hb1.step hG26 (own_ty_ne hT.o2 hty_b1 (by decide))
   replace hb2 := hb2.step hG26 (own_ty_ne hT.o2 hty_b2 (by decide))
   replace hb3 := hb3.step hG26 (own_ty_ne hT.o2 hty_b3 (by decide))
   replace ho3 := own_kept ho3 hT.o2 (by decide) hG26
   replace hb12 := hb12.step hG26 (own_ty_ne hT.o2 hty_b12 (by decide))
   replace hty_b1 := TyAt.own hty_b1 hT.o2 hG26 (by decide)
   replace hty_b2 := TyAt.own hty_b2 hT.o2 hG26 (by decide)
   replace hty_b3 := TyAt.own hty_b3 hT.o2 hG26 (by decide)
   replace hT := hT.put2 ho26 hG26 hq26
   refine l_q (qms rfl rfl) (l_q (qmb rfl rfl) (l_o (o_buildSlice (el := 4) (cs := [.bool (litI cap can (ns.getD k nt0) (cs.getD k 0) (ws.getD k 0) (bs.getD k 0) oil)]) Tryz.underlying54 el4 (by decide) (by kernel_rfl) rfl (by decide) rfl ?_)))
   intro b27 w27 hzl27 hzr27 _ hb27 hE27 ho27
   have hne_b1_b27 : b1 ≠ b27 := by have := hb1.lt; omega
   have hne_b2_b27 : b2 ≠ b27 := by have := hb2.lt; omega
   have hne_b3_b27 : b3 ≠ b27 := by have := hb3.lt; omega
   have hne_b12_b27 : b12 ≠ b27 := by have := hb12.lt; omega
   have hbs_b27 : w.heap.size ≤ b27 := Nat.le_trans hsz hzl27
   replace hB := below_ext hB hE27 hsz
   replace hb1 := hb1.ext hE27
   replace hty_b1 := hty_b1.ext hE27
   replace hb2 := hb2.ext hE27
   replace hty_b2 := hty_b2.ext hE27
   replace hb3 := hb3.ext hE27
   replace hty_b3 := hty_b3.ext hE27
   replace ho3 := own_ext ho3 hE27
   replace hT := hT.ext hE27
   replace hsz := Nat.le_trans hsz hE27.size
   refine l_o (o_append_map (f := Value.bool) (l3) ([litI cap can (ns.getD k nt0) (cs.getD k 0) (ws.getD k 0) (bs.getD k 0) oil]) Tryz.underlying54 el4 rfl rfl ho3 rfl (Row.of_owns ho27) (fun _ => rfl) (by (try simp only [List.length_append, List.length_cons, List.length_nil, List.length_take, List.length_drop, List.length_replicate]); omega) (by omega) rfl ?_)
   intro a28 c28 w28 hz28 ho28 hG28
   replace hB := below_own hB hG28 ho3 (by omega) hsz
   replace hsz := Nat.le_trans hsz hG28.size
   replace hb1 := hb1.step hG28 (own_ty_ne ho3 hty_b1 (by decide))
   replace hb2 := hb2.step hG28 (own_ty_ne ho3 hty_b2 (by decide))
   replace hb3 := hb3.step hG28 (own_ty_ne ho3 hty_b3 (by decide))
   replace hT := hT.kept ho3 (by decide) hG28
   replace hty_b1 := TyAt.own hty_b1 ho3 hG28 (by decide)
   replace hty_b2 := TyAt.own hty_b2 ho3 hG28 (by decide)
   replace hty_b3 := TyAt.own hty_b3 ho3 hG28 (by decide)
   refine l_q (qmi rfl rfl) (l_q (qas rfl rfl) (l_q (qas rfl rfl) (l_q (qas rfl rfl) (l_q (qai rfl rfl) (l_nil (r_forget [(3, .pointer _), (4, .pointer _), (5, .pointer _), (6, .slice _ _ _), (7, .slice _ _ _), (8, .slice _ _ _), (11, .int _ _), (31, .slice _ _ _), (32, .int _ _), (33, .int _ _)] ⟨rfl, rfl, rfl, rfl, rfl, rfl, rfl, rfl, rfl, rfl, trivial⟩ (fun e29 => (r_inBlock (r_region' (l_q (q_add rfl rfl (by omega) rfl) (l_q (qmi rfl rfl) (l_nil ?_))))))))))))
   exact ih9 ⟨k + 1, leftI cap can (ns.getD k nt0) (cs.getD k 0) (ws.getD k 0) (bs.getD k 0) oil, a24, c24, (l1 ++ [leftI cap can (ns.getD k nt0) (cs.getD k 0) (ws.getD k 0) (bs.getD k 0) oil]), a26, c26, (l2 ++ [oil + (cs.getD k 0) * can - fillI cap can oil (cs.getD k 0)]), a28, c28, l3 ++ [litI cap can (ns.getD k nt0) (cs.getD k 0) (ws.getD k 0) (bs.getD k 0) oil]⟩ _ _ ⟨⟨rfl, rfl, rfl, rfl, rfl, rfl, rfl, rfl, rfl, (vint_eq (by omega)), trivial⟩, (by omega), hlb, hpn, (by rw [List.length_append, hl1]; rfl), (by rw [List.length_append, hl2]; rfl), (rep_snoc hl3 hlit), hT, ho28, hb1, hty_b1, hb2, hty_b2, hb3, hty_b3, hsz, hB⟩ (by first | omega | (dsimp only; omega))
  ·
   replace hc10 := dlt hc10
   refine r_exit rfl (r_seq (r_region' (l_q (qms rfl rfl) (l_q (qms rfl rfl) (l_q (qms rfl rfl) (l_q (qas rfl rfl) (l_q (qas rfl rfl) (l_q (qas rfl rfl) (l_q (qai rfl rfl) (l_nil (r_forget [(6, .slice _ _ _), (7, .slice _ _ _), (8, .slice _ _ _), (9, .int _ _)] ⟨rfl, rfl, rfl, rfl, trivial⟩ (fun e30 => (r_ret_ (vs := [.slice _ _ _, .slice _ _ _, .slice _ _ _, .int _ _]) rfl Tryz.func14 rfl (.nil _) ⟨rfl, rfl, rfl, rfl, trivial⟩ ?_)))))))))))))
   have hke : k = ns.length := by omega
   subst hke
   subst hl3
   exact ⟨_, _, _, _, _, _, _, _, rfl, Row.of_owns ho3, Ext.of_below hB⟩
end Go.Proofs.YtbikicakdkbcgabGreat
