/- Contracts. -/
import Derived.Test.YtbikicakdkbcgabGreatR16
import Derived.Test.YtbikicakdkbcgabGreatGvTy3
set_option linter.unusedVariables false
set_option linter.unusedSimpArgs false
namespace Go.Proofs.YtbikicakdkbcgabGreat
open Go Go.RowKit Go.Gv Go.Fl

/-- a post's lists are not too long -/
def PoBig (nd : List Int) (pl : List PV) (L : List SV) : Prop := nd.length ≤ 2097152 ∧ pl.length ≤ 2097152 ∧ L.length ≤ 2097152 ∧ (∀ s ∈ L, s.xs.length ≤ 2097152) ∧ ∀ x ∈ pl, x.ab.length ≤ 2097152
theorem post_big {nd : List Int} {pl pl' : List PV} {L L' : List SV} (h : pl'.map PV.pn = pl.map PV.pn) (hL : L'.map (·.xs) = L.map (·.xs)) (hb : PoBig nd pl L) : PoBig nd pl' L' := by
  refine ⟨hb.1, by rw [pn_len h]; exact hb.2.1, by have := congrArg List.length hL; rw [List.length_map, List.length_map] at this; rw [this]; exact hb.2.2.1, fun s hs => ?_, fun x hx => ?_⟩
  · have h1 : s.xs ∈ L.map (·.xs) := by rw [← hL]; exact List.mem_map.2 ⟨s, hs, rfl⟩
    obtain ⟨t, ht, he⟩ := List.mem_map.1 h1
    rw [← he]; exact hb.2.2.2.1 t ht
  · have h1 : x.pn ∈ pl.map PV.pn := by rw [← h]; exact List.mem_map.2 ⟨x, hx, rfl⟩
    obtain ⟨y, hy, he⟩ := List.mem_map.1 h1
    have h2 : x.ab = y.ab := (congrArg Pn.ab he).symm
    rw [h2]; exact hb.2.2.2.2 y hy
def OwnsB (w : World) (B el : Nat) (l : List PV) : Prop := ∀ p ∈ l, w.ownsRow B el 1 (.slice p.a p.ab.length p.c) p.ab.length (p.ab.map Value.bool)
theorem OwnsB.ext {w w' : World} {B el : Nat} {l : List PV} (h : OwnsB w B el l) (hg : Ext w w') : OwnsB w' B el l := fun s hs => own_ext (h s hs) hg
theorem OwnsB.rows {w : World} {B el : Nat} {l : List PV} (h : OwnsB w B el l) : RowsP w l := fun s hs => Row.of_owns (h s hs)
theorem OwnsB.nil (w : World) (B el : Nat) : OwnsB w B el [] := fun _ h => by simp at h
theorem OwnsB.snoc {w : World} {B el : Nat} {l : List PV} {p : PV} (h : OwnsB w B el l) (hs : w.ownsRow B el 1 (.slice p.a p.ab.length p.c) p.ab.length (p.ab.map Value.bool)) : OwnsB w B el (l ++ [p]) := fun x hx => by
  rcases List.mem_append.1 hx with h1 | h1
  · exact h x h1
  · rw [List.mem_singleton.1 h1]; exact hs
theorem OwnsB.kept {w w' : World} {B el base' e' size' n' : Nat} {l : List PV} {v' : Value} {xs' : List Value} (h : OwnsB w B el l) (h' : w.ownsRow base' e' size' v' n' xs') (hne : el ≠ e') (hG : w.grownBy w' v'.ownBlock) : OwnsB w' B el l := fun s hs => own_kept (h s hs) h' hne hG
theorem OwnsB.tyupd {w w' : World} {B el b T : Nat} {l : List PV} (h : OwnsB w B el l) (ht : TyAt w b T) (hG : w.grownBy w' (some b)) (hne : el ≠ T) : OwnsB w' B el l := fun s hs => own_ty_upd (h s hs) ht hG hne
theorem OwnsB.apart {w w' : World} {b el B e2 size2 n2 : Nat} {l : List PV} {v2 : Value} {xs2 : List Value} (h : OwnsB w b el l) (hlt : ∀ p ∈ l, ∀ g, (Value.slice p.a p.ab.length p.c).ownBlock = some g → g < B) (ho : w.ownsRow B e2 size2 v2 n2 xs2) (hG : w.grownBy w' v2.ownBlock) : OwnsB w' b el l := fun s hs => own_apart (h s hs) (hlt s hs) ho hG
theorem OwnsB.under {w : World} {b el : Nat} {l : List PV} (h : OwnsB w b el l) : ∀ p ∈ l, ∀ g, (Value.slice p.a p.ab.length p.c).ownBlock = some g → g < w.heap.size := fun s hs g hg => ((h s hs).lt g hg).2
theorem pn_snoc {pl M : List PV} {k : Nat} {p : PV} (hk : k < pl.length) (h : M.map PV.pn = (pl.take k).map PV.pn) (hp : p.pn = (pl.getD k pv0).pn := by rfl) : (M ++ [p]).map PV.pn = (pl.take (k + 1)).map PV.pn := by
  rw [List.map_append, h, List.take_add_one, List.getElem?_eq_getElem hk, List.map_append]
  simp only [List.map_cons, List.map_nil, Option.toList_some, hp, List.getD_eq_getElem?_getD, List.getElem?_eq_getElem hk, Option.getD_some]

theorem el4 : Elem Tryz.prog 4 (.bool false) 1 1 := elem_of (by kernel_rfl) rfl (by decide)
theorem el76 : Elem Tryz.prog 76 (.agg ⟨[.slice none 0 0, vint 0, vint 0]⟩) 3 40 := elem_of (by kernel_rfl) rfl (by decide)
theorem short_ret10 (ra : Option Addr) (rc : Nat) (R : List SV) (w : World) (hR : Row w ra R.length rc 1 (R.map SV.enc)) (hRr : RowsI w R) (hRl : R.length ≤ 2097152) (hRx : ∀ s ∈ R, s.xs.length ≤ 2097152) : Ret Tryz.prog 22 [.slice ra R.length rc] w (fun v w' => ∃ b : Bool, v = .bool b ∧ True ∧ Ext w w') := by
 have hB := Below.refl w.heap.size w
 have hsz : w.heap.size ≤ w.heap.size := Nat.le_refl _
 refine ret_of_runs (args := [_]) Tryz.func22 rfl (Nat.le_of_ble_eq_true rfl) (by kernel_rfl) (r_seq (r_region' (l_q (qab rfl rfl) (l_nil (r_seq (r_seq (r_region' (l_q (qai rfl rfl) (l_nil (r_block (r_rounds (α := Nat) (fun k e wl => Knows e [(0, .slice ra R.length rc), (3, vint (k : Int))] ∧ (k ≤ R.length) ∧ (w.heap.size ≤ wl.heap.size) ∧ (Below w.heap.size w wl)) (fun k => R.length - k) 0 ?_ ?_)))))))))))
 ·
  exact ⟨⟨rfl, rfl, trivial⟩, (Nat.zero_le _), hsz, hB⟩
 ·
  rintro k el1 wl1 ⟨hkn, hkk, hsz, hB⟩ ih1
  obtain ⟨e1, rfl⟩ := knows_env hkn
  refine r_seq (r_seq (r_region' (l_q (qmi rfl rfl) (l_q (qms rfl rfl) (l_q (q_len rfl Tryz.underlying31 rfl rfl) (l_q (q_lss rfl rfl rfl) (l_q (qmb rfl rfl) (l_part 8 rfl (fun hc2 => ?_) (fun hc2 => ?_)))))))))
  ·
   replace hc2 := dt hc2
   have hkR : k < R.length := by omega
   refine l_q (qmi rfl rfl) (l_q (q_lss rfl rfl rfl) (l_q (q_pick_t (v := .bool _) rfl rfl rfl) (l_nil (r_cond rfl (fun hc3 => ?_) (fun hc3 => ?_)))))
   ·
    replace hc3 := dt hc3
    refine r_skip (r_seq (r_block (r_seq (r_region' (l_q (qms rfl rfl) (l_q (qmi rfl rfl) ?_))))))
    obtain ⟨b4, o4, ha4, hh4⟩ := (hR.below hB).at1 k ((R).getD k sv0) (getD_some (by omega))
    refine l_q (q_indexAddr1 Tryz.underlying31 Tryz.sizeOf27 rfl ha4 rfl (by omega) rfl) (l_q (q_load Tryz.isAgg27 rfl (hh4) rfl) (l_q (q_len rfl Tryz.underlying27 rfl rfl) (l_q (q_gtr rfl rfl rfl) (l_nil (r_forget [(0, .slice _ _ _), (3, .int _ _), (19, .bool _)] ⟨rfl, rfl, rfl, trivial⟩ (fun e5 => (r_cond rfl (fun hc6 => ?_) (fun hc6 => ?_))))))))
    ·
     replace hc6 := dt hc6
     refine r_seq (r_region' (l_q (qab rfl rfl) (l_nil (r_ret_ (vs := [.bool _]) rfl Tryz.func22 rfl (.nil _) ⟨rfl, trivial⟩ ?_))))
     exact ⟨_, rfl, trivial, Ext.of_below hB⟩
    ·
     replace hc6 := dlt hc6
     refine r_skip (r_inBlock (r_region' (l_q (qmi rfl rfl) (l_q (q_add rfl rfl (by omega) rfl) (l_q (qai rfl rfl) (l_nil ?_))))))
     exact ih1 (k + 1) _ _ ⟨⟨rfl, by first | rfl | exact vint_eq (by omega), trivial⟩, (by omega), hsz, hB⟩ (by first | omega | (dsimp only; omega))
   ·
    replace hc3 := dlt hc3
    refine r_exit rfl (r_seq (r_region' (l_q (qms rfl rfl) (l_q (q_len rfl Tryz.underlying31 rfl rfl) (l_q (q_leq rfl rfl rfl) (l_q (qab rfl rfl) (l_nil (r_forget [(2, .bool _)] ⟨rfl, trivial⟩ (fun e7 => (r_ret_ (vs := [.bool _]) rfl Tryz.func22 rfl (.nil _) ⟨rfl, trivial⟩ ?_))))))))))
    exact ⟨_, rfl, trivial, Ext.of_below hB⟩
  ·
   replace hc2 := dlt hc2
   refine l_q (q_skip rfl) (l_q (q_skip rfl) (l_q (q_pick_f (v := .bool _) rfl rfl rfl) (l_nil (r_cond_f rfl (r_exit rfl (r_seq (r_region' (l_q (qms rfl rfl) (l_q (q_len rfl Tryz.underlying31 rfl rfl) (l_q (q_leq rfl rfl rfl) (l_q (qab rfl rfl) (l_nil (r_forget [(2, .bool _)] ⟨rfl, trivial⟩ (fun e8 => (r_ret_ (vs := [.bool _]) rfl Tryz.func22 rfl (.nil _) ⟨rfl, trivial⟩ ?_)))))))))))))))
   exact ⟨_, rfl, trivial, Ext.of_below hB⟩
theorem thin_ret10 (na : Option Addr) (nc : Nat) (nd : List Int) (pa : Option Addr) (pc : Nat) (pl : List PV) (ca : Option Addr) (cc : Nat) (L : List SV) (w : World) (hpo : PoAt w na nc nd pa pc pl ca cc L) (hbg : PoBig nd pl L) : Ret Tryz.prog 7 [.agg ⟨[.slice na nd.length nc, .slice pa pl.length pc, .slice ca L.length cc]⟩] w (fun v w' => ∃ b : Bool, v = .bool b ∧ True ∧ Ext w w') := by
 obtain ⟨hnl, hpll, hLl, hLs, hPb⟩ := id hbg
 have hB := Below.refl w.heap.size w
 have hsz : w.heap.size ≤ w.heap.size := Nat.le_refl _
 refine ret_of_runs (args := [_]) Tryz.func7 rfl (Nat.le_of_ble_eq_true rfl) (by kernel_rfl) (r_seq (r_region' (l_o (o_box rfl rfl rfl ?_))))
 intro b1 w1 hzl1 hzr1 _ hb1 hE1
 have hbs_b1 : w.heap.size ≤ b1 := Nat.le_trans hsz hzl1
 replace hB := below_ext hB hE1 hsz
 replace hsz := Nat.le_trans hsz hE1.size
 refine l_q (qab rfl rfl) (l_nil (r_seq (r_seq (r_region' (l_q (qai rfl rfl) (l_nil (r_block (r_rounds (α := Nat) (fun k e wl => Knows e [(1, ptr b1 0), (3, vint (k : Int))] ∧ (k ≤ pl.length) ∧ (Blk wl b1 [.slice na nd.length nc, .slice pa pl.length pc, .slice ca L.length cc]) ∧ (w.heap.size ≤ wl.heap.size) ∧ (Below w.heap.size w wl)) (fun k => pl.length - k) 0 ?_ ?_))))))))
 ·
  exact ⟨⟨rfl, rfl, trivial⟩, (Nat.zero_le _), hb1, hsz, hB⟩
 ·
  rintro k el2 wl2 ⟨hkn, hkk, hb1, hsz, hB⟩ ih2
  obtain ⟨e2, rfl⟩ := knows_env hkn
  refine r_seq (r_seq (r_region' (l_q (qmi rfl rfl) (l_q (q_fieldAddr (o' := 1) rfl fld33_1 rfl) (l_q (q_load Tryz.isAgg30 rfl ((hb1.has (o := 1) rfl)) rfl) (l_q (q_len rfl Tryz.underlying30 rfl rfl) (l_q (q_lss rfl rfl rfl) (l_q (qmb rfl rfl) (l_part 9 rfl (fun hc3 => ?_) (fun hc3 => ?_))))))))))
  ·
   replace hc3 := dt hc3
   have hkp : k < pl.length := by omega
   refine l_q (qmi rfl rfl) (l_q (q_lss rfl rfl rfl) (l_q (q_pick_t (v := .bool _) rfl rfl rfl) (l_nil (r_cond rfl (fun hc4 => ?_) (fun hc4 => ?_)))))
   ·
    replace hc4 := dt hc4
    refine r_skip (r_seq (r_block (r_seq (r_region' (l_q (q_fieldAddr (o' := 1) rfl fld33_1 rfl) (l_q (q_load Tryz.isAgg30 rfl ((hb1.has (o := 1) rfl)) rfl) (l_q (qmi rfl rfl) ?_)))))))
    obtain ⟨b5, o5, ha5, hh5⟩ := (hpo.rpl.below hB).at (by decide) k (by omega)
    refine l_q (q_indexAddr Tryz.underlying30 Tryz.sizeOf72 rfl ha5 rfl (by omega) rfl) (l_q (q_fieldAddr (o' := 0) rfl fld72_0 rfl) (l_q (q_load Tryz.isAgg54 rfl (((cells_cast (wide_at PV.len pv0 _ _ (by omega)) hh5) 0 _ rfl)) rfl) (l_q (q_len rfl Tryz.underlying54 rfl rfl) (l_q (q_gtr rfl rfl rfl) (l_nil (r_forget [(1, .pointer _), (3, .int _ _), (22, .bool _)] ⟨rfl, rfl, rfl, trivial⟩ (fun e6 => (r_cond rfl (fun hc7 => ?_) (fun hc7 => ?_)))))))))
    ·
     replace hc7 := dt hc7
     refine r_seq (r_region' (l_q (qab rfl rfl) (l_nil (r_ret_ (vs := [.bool _]) rfl Tryz.func7 rfl (.nil _) ⟨rfl, trivial⟩ ?_))))
     exact ⟨_, rfl, trivial, Ext.of_below hB⟩
    ·
     replace hc7 := dlt hc7
     refine r_skip (r_inBlock (r_region' (l_q (qmi rfl rfl) (l_q (q_add rfl rfl (by omega) rfl) (l_q (qai rfl rfl) (l_nil ?_))))))
     exact ih2 (k + 1) _ _ ⟨⟨rfl, by first | rfl | exact vint_eq (by omega), trivial⟩, (by omega), hb1, hsz, hB⟩ (by first | omega | (dsimp only; omega))
   ·
    replace hc4 := dlt hc4
    refine r_exit rfl (r_seq (r_region' (l_q (q_fieldAddr (o' := 0) rfl fld33_0 rfl) (l_q (q_load Tryz.isAgg27 rfl ((hb1.has (o := 0) rfl)) rfl) (l_q (q_len rfl Tryz.underlying27 rfl rfl) (l_q (q_leq rfl rfl rfl) (l_q (qmb rfl rfl) (l_part 27 rfl (fun hc8 => ?_) (fun hc8 => ?_)))))))))
    ·
     replace hc8 := dt hc8
     refine l_q (q_fieldAddr (o' := 1) rfl fld33_1 rfl) (l_q (q_load Tryz.isAgg30 rfl ((hb1.has (o := 1) rfl)) rfl) (l_q (q_len rfl Tryz.underlying30 rfl rfl) (l_q (q_leq rfl rfl rfl) (l_q (q_pick_t (v := .bool _) rfl rfl rfl) (l_q (qmb rfl rfl) (l_part 33 rfl (fun hc9 => ?_) (fun hc9 => ?_)))))))
     ·
      replace hc9 := dt hc9
      refine l_q (q_fieldAddr (o' := 2) rfl fld33_2 rfl) (l_q (q_load Tryz.isAgg31 rfl ((hb1.has (o := 2) rfl)) rfl) (l_q (q_len rfl Tryz.underlying31 rfl rfl) (l_q (q_leq rfl rfl rfl) (l_q (q_pick_t (v := .bool _) rfl rfl rfl) (l_q (qmb rfl rfl) (l_part 39 rfl (fun hc10 => ?_) (fun hc10 => ?_)))))))
      ·
       replace hc10 := dt hc10
       refine l_q (q_fieldAddr (o' := 2) rfl fld33_2 rfl) (l_q (q_load Tryz.isAgg31 rfl ((hb1.has (o := 2) rfl)) rfl) (l_o (o_call Tryz.call22 rfl (short_ret10 _ _ L _ (hpo.rC.below hB) (hpo.rCr.below hB) hLl hLs) rfl ?_)))
       rintro _ w11 ⟨bb11, rfl, -, hE11⟩
       replace hB := below_ext hB hE11 hsz
       replace hb1 := hb1.ext hE11
       replace hsz := Nat.le_trans hsz hE11.size
       refine l_q (q_pick_t (v := .bool _) rfl rfl rfl) (l_q (qab rfl rfl) (l_nil (r_forget [(2, .bool _)] ⟨rfl, trivial⟩ (fun e12 => (r_ret_ (vs := [.bool _]) rfl Tryz.func7 rfl (.nil _) ⟨rfl, trivial⟩ ?_)))))
       exact ⟨_, rfl, trivial, Ext.of_below hB⟩
      ·
       replace hc10 := dle hc10
       refine l_q (q_skip rfl) (l_q (q_skip rfl) (l_q (q_skip rfl) (l_q (q_pick_f (v := .bool _) rfl rfl rfl) (l_q (qab rfl rfl) (l_nil (r_forget [(2, .bool _)] ⟨rfl, trivial⟩ (fun e13 => (r_ret_ (vs := [.bool _]) rfl Tryz.func7 rfl (.nil _) ⟨rfl, trivial⟩ ?_))))))))
       exact ⟨_, rfl, trivial, Ext.of_below hB⟩
     ·
      replace hc9 := dle hc9
      refine l_q (q_skip rfl) (l_q (q_skip rfl) (l_q (q_skip rfl) (l_q (q_skip rfl) (l_q (q_pick_f (v := .bool _) rfl rfl rfl) (l_q (qmb rfl rfl) (l_q (q_skip rfl) (l_q (q_skip rfl) (l_q (q_skip rfl) (l_q (q_pick_f (v := .bool _) rfl rfl rfl) (l_q (qab rfl rfl) (l_nil (r_forget [(2, .bool _)] ⟨rfl, trivial⟩ (fun e14 => (r_ret_ (vs := [.bool _]) rfl Tryz.func7 rfl (.nil _) ⟨rfl, trivial⟩ ?_))))))))))))))
      exact ⟨_, rfl, trivial, Ext.of_below hB⟩
    ·
     replace hc8 := dle hc8
     refine l_q (q_skip rfl) (l_q (q_skip rfl) (l_q (q_skip rfl) (l_q (q_skip rfl) (l_q (q_pick_f (v := .bool _) rfl rfl rfl) (l_q (qmb rfl rfl) (l_q (q_skip rfl) (l_q (q_skip rfl) (l_q (q_skip rfl) (l_q (q_skip rfl) (l_q (q_pick_f (v := .bool _) rfl rfl rfl) (l_q (qmb rfl rfl) (l_q (q_skip rfl) (l_q (q_skip rfl) (l_q (q_skip rfl) (l_q (q_pick_f (v := .bool _) rfl rfl rfl) (l_q (qab rfl rfl) (l_nil (r_forget [(2, .bool _)] ⟨rfl, trivial⟩ (fun e15 => (r_ret_ (vs := [.bool _]) rfl Tryz.func7 rfl (.nil _) ⟨rfl, trivial⟩ ?_))))))))))))))))))))
     exact ⟨_, rfl, trivial, Ext.of_below hB⟩
  ·
   replace hc3 := dlt hc3
   refine l_q (q_skip rfl) (l_q (q_skip rfl) (l_q (q_pick_f (v := .bool _) rfl rfl rfl) (l_nil (r_cond_f rfl (r_exit rfl (r_seq (r_region' (l_q (q_fieldAddr (o' := 0) rfl fld33_0 rfl) (l_q (q_load Tryz.isAgg27 rfl ((hb1.has (o := 0) rfl)) rfl) (l_q (q_len rfl Tryz.underlying27 rfl rfl) (l_q (q_leq rfl rfl rfl) (l_q (qmb rfl rfl) (l_part 27 rfl (fun hc16 => ?_) (fun hc16 => ?_))))))))))))))
   ·
    replace hc16 := dt hc16
    refine l_q (q_fieldAddr (o' := 1) rfl fld33_1 rfl) (l_q (q_load Tryz.isAgg30 rfl ((hb1.has (o := 1) rfl)) rfl) (l_q (q_len rfl Tryz.underlying30 rfl rfl) (l_q (q_leq rfl rfl rfl) (l_q (q_pick_t (v := .bool _) rfl rfl rfl) (l_q (qmb rfl rfl) (l_part 33 rfl (fun hc17 => ?_) (fun hc17 => ?_)))))))
    ·
     replace hc17 := dt hc17
     refine l_q (q_fieldAddr (o' := 2) rfl fld33_2 rfl) (l_q (q_load Tryz.isAgg31 rfl ((hb1.has (o := 2) rfl)) rfl) (l_q (q_len rfl Tryz.underlying31 rfl rfl) (l_q (q_leq rfl rfl rfl) (l_q (q_pick_t (v := .bool _) rfl rfl rfl) (l_q (qmb rfl rfl) (l_part 39 rfl (fun hc18 => ?_) (fun hc18 => ?_)))))))
     ·
      replace hc18 := dt hc18
      refine l_q (q_fieldAddr (o' := 2) rfl fld33_2 rfl) (l_q (q_load Tryz.isAgg31 rfl ((hb1.has (o := 2) rfl)) rfl) (l_o (o_call Tryz.call22 rfl (short_ret10 _ _ L _ (hpo.rC.below hB) (hpo.rCr.below hB) hLl hLs) rfl ?_)))
      rintro _ w19 ⟨bb19, rfl, -, hE19⟩
      replace hB := below_ext hB hE19 hsz
      replace hsz := Nat.le_trans hsz hE19.size
      refine l_q (q_pick_t (v := .bool _) rfl rfl rfl) (l_q (qab rfl rfl) (l_nil (r_forget [(2, .bool _)] ⟨rfl, trivial⟩ (fun e20 => (r_ret_ (vs := [.bool _]) rfl Tryz.func7 rfl (.nil _) ⟨rfl, trivial⟩ ?_)))))
      exact ⟨_, rfl, trivial, Ext.of_below hB⟩
     ·
      replace hc18 := dle hc18
      refine l_q (q_skip rfl) (l_q (q_skip rfl) (l_q (q_skip rfl) (l_q (q_pick_f (v := .bool _) rfl rfl rfl) (l_q (qab rfl rfl) (l_nil (r_forget [(2, .bool _)] ⟨rfl, trivial⟩ (fun e21 => (r_ret_ (vs := [.bool _]) rfl Tryz.func7 rfl (.nil _) ⟨rfl, trivial⟩ ?_))))))))
      exact ⟨_, rfl, trivial, Ext.of_below hB⟩
    ·
     replace hc17 := dle hc17
     refine l_q (q_skip rfl) (l_q (q_skip rfl) (l_q (q_skip rfl) (l_q (q_skip rfl) (l_q (q_pick_f (v := .bool _) rfl rfl rfl) (l_q (qmb rfl rfl) (l_q (q_skip rfl) (l_q (q_skip rfl) (l_q (q_skip rfl) (l_q (q_pick_f (v := .bool _) rfl rfl rfl) (l_q (qab rfl rfl) (l_nil (r_forget [(2, .bool _)] ⟨rfl, trivial⟩ (fun e22 => (r_ret_ (vs := [.bool _]) rfl Tryz.func7 rfl (.nil _) ⟨rfl, trivial⟩ ?_))))))))))))))
     exact ⟨_, rfl, trivial, Ext.of_below hB⟩
   ·
    replace hc16 := dle hc16
    refine l_q (q_skip rfl) (l_q (q_skip rfl) (l_q (q_skip rfl) (l_q (q_skip rfl) (l_q (q_pick_f (v := .bool _) rfl rfl rfl) (l_q (qmb rfl rfl) (l_q (q_skip rfl) (l_q (q_skip rfl) (l_q (q_skip rfl) (l_q (q_skip rfl) (l_q (q_pick_f (v := .bool _) rfl rfl rfl) (l_q (qmb rfl rfl) (l_q (q_skip rfl) (l_q (q_skip rfl) (l_q (q_skip rfl) (l_q (q_pick_f (v := .bool _) rfl rfl rfl) (l_q (qab rfl rfl) (l_nil (r_forget [(2, .bool _)] ⟨rfl, trivial⟩ (fun e23 => (r_ret_ (vs := [.bool _]) rfl Tryz.func7 rfl (.nil _) ⟨rfl, trivial⟩ ?_))))))))))))))))))))
    exact ⟨_, rfl, trivial, Ext.of_below hB⟩
theorem list10_ret (xa : Option Addr) (xc : Nat) (xs : List Int) (w : World) (hx : Row w xa xs.length xc 1 (xs.map vint)) (hxn : xs.length ≤ 2097152) : Ret Tryz.prog 47 [.slice xa xs.length xc] w (fun v w' => ∃ ra0 rc0, v = .slice ra0 (xs).length rc0 ∧ w'.ownsRow w.heap.size 3 1 (.slice ra0 (xs).length rc0) (xs).length ((xs).map vint) ∧ Ext w w') := by
 have hB := Below.refl w.heap.size w
 have hsz : w.heap.size ≤ w.heap.size := Nat.le_refl _
 refine ret_of_runs (args := [_]) Tryz.func47 rfl (Nat.le_of_ble_eq_true rfl) (by kernel_rfl) (r_seq (r_region' (l_q (qas rfl rfl) (l_nil (r_seq (r_region' (l_o (o_buildSlice (el := 3) (cs := []) Tryz.underlying27 el3 (by decide) (by kernel_rfl) rfl (by decide) rfl ?_))))))))
 intro b1 w1 hzl1 hzr1 _ hb1 hE1 ho1
 have hbs_b1 : w.heap.size ≤ b1 := Nat.le_trans hsz hzl1
 replace hB := below_ext hB hE1 hsz
 replace hsz := Nat.le_trans hsz hE1.size
 refine l_q (qms rfl rfl) (l_o (o_append_map (f := vint) ([]) (xs) Tryz.underlying27 el3 rfl rfl ho1 rfl (hx.below hB) (fun _ => rfl) (by (try simp only [List.length_append, List.length_cons, List.length_nil, List.length_take, List.length_drop, List.length_replicate]); omega) (by omega) rfl ?_))
 intro a2 c2 w2 hz2 ho2 hG2
 replace hB := below_own hB hG2 ho1 (by omega) hsz
 replace hsz := Nat.le_trans hsz hG2.size
 refine l_q (qas rfl rfl) (l_nil (r_ret_ (vs := [.slice _ _ _]) rfl Tryz.func47 rfl (.nil _) ⟨rfl, trivial⟩ ?_))
 exact ⟨_, _, rfl, ho2, Ext.of_below hB⟩
theorem rows10_ret (ra : Option Addr) (rc : Nat) (R : List SV) (w : World) (hR : Row w ra R.length rc 1 (R.map SV.enc)) (hRr : RowsI w R) (hRl : R.length ≤ 2097152) (hRx : ∀ s ∈ R, s.xs.length ≤ 2097152) : Ret Tryz.prog 48 [.slice ra R.length rc] w (fun v w' => ∃ oa oc L2, v = .slice oa L2.length oc ∧ w'.ownsRow w.heap.size 27 1 (.slice oa L2.length oc) L2.length (L2.map SV.enc) ∧ OwnsI w' w.heap.size 3 L2 ∧ L2.map (·.xs) = (R.map (·.xs)) ∧ Ext w w') := by
 have hB := Below.refl w.heap.size w
 have hsz : w.heap.size ≤ w.heap.size := Nat.le_refl _
 refine ret_of_runs (args := [_]) Tryz.func48 rfl (Nat.le_of_ble_eq_true rfl) (by kernel_rfl) (r_seq (r_region' (l_q (qas rfl rfl) (l_nil (r_seq (r_region' (l_q (qas rfl rfl) (l_nil (r_seq (r_seq (r_region' (l_q (qai rfl rfl) (l_nil (r_block (r_rounds (α := Nat × (Option Addr) × Nat × (List SV)) (fun ⟨k, oa, oc, M⟩ e wl => Knows e [(0, .slice ra R.length rc), (3, .slice oa ((M).length) oc), (4, vint (k : Int))] ∧ (k ≤ R.length) ∧ (M.map (·.xs) = (R.map (·.xs)).take k) ∧ (M.length = k) ∧ (wl.ownsRow w.heap.size 27 1 (.slice oa ((M).length) oc) ((M).length) ((M).map SV.enc)) ∧ (OwnsI wl w.heap.size 3 M) ∧ (w.heap.size ≤ wl.heap.size) ∧ (Below w.heap.size w wl)) (fun ⟨k, oa, oc, M⟩ => R.length - k) (0, none, 0, []) ?_ ?_)))))))))))))))
 ·
  exact ⟨⟨rfl, rfl, rfl, trivial⟩, (Nat.zero_le _), rfl, rfl, (World.ownsRow_nil _ _ _ _), (OwnsI.nil _ _ _), hsz, hB⟩
 ·
  rintro ⟨k, oa, oc, M⟩ el1 wl1 ⟨hkn, hk, hM, hMl, hw, hos, hsz, hB⟩ ih1
  obtain ⟨e1, rfl⟩ := knows_env hkn
  refine r_seq (r_seq (r_region' (l_q (qmi rfl rfl) (l_q (qms rfl rfl) (l_q (q_len rfl Tryz.underlying31 rfl rfl) (l_q (q_lss rfl rfl rfl) (l_nil (r_cond rfl (fun hc2 => ?_) (fun hc2 => ?_)))))))))
  ·
   replace hc2 := dt hc2
   have hkR : k < R.length := by omega
   have hel := hRx _ (getD_lt (d := sv0) hkR)
   refine r_skip (r_seq (r_block (r_region' (l_q (qms rfl rfl) (l_q (qms rfl rfl) (l_q (qmi rfl rfl) ?_))))))
   obtain ⟨b3, o3, ha3, hh3⟩ := (hR.below hB).at1 k ((R).getD k sv0) (getD_some (by omega))
   refine l_q (q_indexAddr1 Tryz.underlying31 Tryz.sizeOf27 rfl ha3 rfl (by omega) rfl) (l_q (q_load Tryz.isAgg27 rfl (hh3) rfl) (l_o (o_call Tryz.call47 rfl (list10_ret _ _ (((R).getD k sv0).xs) _ ((RowsI.get (hRr) (i := k) (by omega)).below hB) (by omega)) rfl ?_)))
   rintro _ w4 ⟨a4_0, c4_0, rfl, ho4_0, hE4⟩
   replace ho4_0 := own_mono ho4_0 (show w.heap.size ≤ _ by omega)
   replace hB := below_ext hB hE4 hsz
   replace hw := own_ext hw hE4
   replace hos := hos.ext hE4
   replace hsz := Nat.le_trans hsz hE4.size
   refine l_o (o_buildSlice (el := 27) (cs := [.slice a4_0 (((((R).getD k sv0).xs)).length) c4_0]) Tryz.underlying31 el27 (by decide) (by kernel_rfl) rfl (by decide) rfl ?_)
   intro b5 w5 hzl5 hzr5 _ hb5 hE5 ho5
   have hbs_b5 : w.heap.size ≤ b5 := Nat.le_trans hsz hzl5
   replace hB := below_ext hB hE5 hsz
   replace hw := own_ext hw hE5
   replace hos := hos.ext hE5
   replace ho4_0 := own_ext ho4_0 hE5
   replace hsz := Nat.le_trans hsz hE5.size
   have hos5 : OwnsI w5 w.heap.size 3 [⟨a4_0, c4_0, (((R).getD k sv0).xs)⟩] := OwnsI.snoc (OwnsI.nil _ _ _) (own_mono ho4_0 (by omega))
   refine l_o (o_append_map (f := SV.enc) (M) ([⟨a4_0, c4_0, (((R).getD k sv0).xs)⟩]) Tryz.underlying31 el27 rfl rfl hw rfl (Row.of_owns ho5) (fun _ => rfl) (by (try simp only [List.length_append, List.length_cons, List.length_nil, List.length_take, List.length_drop, List.length_replicate]); omega) (by omega) rfl ?_)
   intro a6 c6 w6 hz6 ho6 hG6
   replace hB := below_own hB hG6 hw (by omega) hsz
   replace hsz := Nat.le_trans hsz hG6.size
   replace hos := hos.kept hw (by decide) hG6
   replace ho4_0 := own_kept ho4_0 hw (by decide) hG6
   refine l_q (qas rfl rfl) (l_nil (r_forget [(0, .slice _ _ _), (3, .slice _ _ _), (4, .int _ _)] ⟨rfl, rfl, rfl, trivial⟩ (fun e7 => (r_inBlock (r_region' (l_q (qmi rfl rfl) (l_q (q_add rfl rfl (by omega) rfl) (l_q (qai rfl rfl) (l_nil ?_)))))))))
   exact ih1 (k + 1, a6, c6, M ++ [⟨a4_0, c4_0, (((R).getD k sv0).xs)⟩]) _ _ ⟨⟨rfl, by first | rfl | exact vint_eq (by omega), by first | rfl | exact vint_eq (by omega), trivial⟩, (by omega), (by rw [List.map_append, hM, xs_take hkR]; rfl), (by rw [List.length_append, hMl]; rfl), ho6, (OwnsI.snoc hos (own_mono ho4_0 (by omega))), hsz, hB⟩ (by first | omega | (dsimp only; omega))
  ·
   replace hc2 := dlt hc2
   refine r_exit rfl (r_seq (r_region' (l_q (qms rfl rfl) (l_q (qas rfl rfl) (l_nil (r_ret_ (vs := [.slice _ _ _]) rfl Tryz.func48 rfl (.nil _) ⟨rfl, trivial⟩ ?_))))))
   exact ⟨oa, oc, M, rfl, hw, hos, (by rw [hM, List.take_of_length_le (by rw [List.length_map]; omega)]), Ext.of_below hB⟩
theorem post10_ret (na : Option Addr) (nc : Nat) (nd : List Int) (pa : Option Addr) (pc : Nat) (pl : List PV) (ca : Option Addr) (cc : Nat) (L : List SV) (w : World) (hpo : PoAt w na nc nd pa pc pl ca cc L) (hbg : PoBig nd pl L) : Ret Tryz.prog 17 [.agg ⟨[.slice na nd.length nc, .slice pa pl.length pc, .slice ca L.length cc]⟩] w (fun v w' => ∃ na2 nc2 pa2 pc2 pl2 ca2 cc2 L2, v = .agg ⟨[.slice na2 nd.length nc2, .slice pa2 (List.length pl2) pc2, .slice ca2 (List.length L2) cc2]⟩ ∧ PoAt w' na2 nc2 nd pa2 pc2 pl2 ca2 cc2 L2 ∧ pl2.map PV.pn = pl.map PV.pn ∧ L2.map (·.xs) = (L.map (·.xs)) ∧ Ext w w') := by
 obtain ⟨hnl, hpll, hLl, hLs, hPb⟩ := id hbg
 have hB := Below.refl w.heap.size w
 have hsz : w.heap.size ≤ w.heap.size := Nat.le_refl _
 refine ret_of_runs (args := [_]) Tryz.func17 rfl (Nat.le_of_ble_eq_true rfl) (by kernel_rfl) (r_seq (r_region' (l_o (o_boxt rfl rfl rfl ?_))))
 intro b1 w1 hzl1 hzr1 _ hb1 hty_b1 hE1
 have hbs_b1 : w.heap.size ≤ b1 := Nat.le_trans hsz hzl1
 replace hB := below_ext hB hE1 hsz
 replace hsz := Nat.le_trans hsz hE1.size
 refine l_o (o_alloct Tryz.zeroValue64 rfl rfl ?_)
 intro b2 w2 hzl2 hzr2 _ hb2 hty_b2 hE2
 have hne_b1_b2 : b1 ≠ b2 := by have := hb1.lt; omega
 have hbs_b2 : w.heap.size ≤ b2 := Nat.le_trans hsz hzl2
 replace hB := below_ext hB hE2 hsz
 replace hb1 := hb1.ext hE2
 replace hty_b1 := hty_b1.ext hE2
 replace hsz := Nat.le_trans hsz hE2.size
 refine l_nil (r_seq (r_draw3 ext_refl' ext_trans' (.op 0 (.op 1 (.op 3 (.op 4 (.fork 7 (.op 2 (.op 5 (.op 6 (.op 8 (.done))))) (.op 2 (.fork 7 (.op 5 (.op 6 (.op 8 (.done)))) (.op 5 (.op 6 (.op 7 (.op 8 (.done)))))))))))) [2, 5, 7, 8, 1008] 20 (by kernel_rfl) (by kernel_rfl) ?_))
 intro w3 _ hE3
 replace hB := below_ext hB hE3 hsz
 replace hb1 := hb1.ext hE3
 replace hty_b1 := hty_b1.ext hE3
 replace hb2 := hb2.ext hE3
 replace hty_b2 := hty_b2.ext hE3
 replace hsz := Nat.le_trans hsz hE3.size
 refine m_q3 rfl rfl (fun w' hC' => q_fieldAddr (o' := 0) rfl fld33_0 rfl) (m_q3 rfl rfl (fun w' hC' => q_load Tryz.isAgg27 rfl (((hb1.has (o := 0) rfl).ext hC')) rfl) (m_q3 rfl rfl (fun w' hC' => q_fieldAddr (o' := 2) rfl fld33_2 rfl) (m_q3 rfl rfl (fun w' hC' => q_load Tryz.isAgg31 rfl (((hb1.has (o := 2) rfl).ext hC')) rfl) (m_fork3 ?_ ?_))))
 ·
  refine m_o3 rfl rfl (o_alloct Tryz.zeroValue64 rfl rfl ?_)
  intro b4 w4 hzl4 hzr4 _ hb4 hty_b4 hE4
  refine ⟨hE4, ?_⟩
  have hne_b1_b4 : b1 ≠ b4 := by have := hb1.lt; omega
  have hne_b2_b4 : b2 ≠ b4 := by have := hb2.lt; omega
  have hbs_b4 : w.heap.size ≤ b4 := Nat.le_trans hsz hzl4
  replace hB := below_ext hB hE4 hsz
  replace hb1 := hb1.ext hE4
  replace hty_b1 := hty_b1.ext hE4
  replace hb2 := hb2.ext hE4
  replace hty_b2 := hty_b2.ext hE4
  replace hsz := Nat.le_trans hsz hE4.size
  refine m_o3 rfl rfl (o_call Tryz.call47 rfl (list10_ret _ _ nd _ (hpo.rnd.below hB) (by omega)) rfl ?_)
  rintro _ w5 ⟨a5_0, c5_0, rfl, ho5_0, hE5⟩
  replace ho5_0 := own_mono ho5_0 (show w.heap.size ≤ _ by omega)
  refine ⟨hE5, ?_⟩
  replace hB := below_ext hB hE5 hsz
  replace hb1 := hb1.ext hE5
  replace hty_b1 := hty_b1.ext hE5
  replace hb2 := hb2.ext hE5
  replace hty_b2 := hty_b2.ext hE5
  replace hb4 := hb4.ext hE5
  replace hty_b4 := hty_b4.ext hE5
  replace hsz := Nat.le_trans hsz hE5.size
  refine m_o3 rfl rfl (o_call Tryz.call48 rfl (rows10_ret _ _ L _ (hpo.rC.below hB) (hpo.rCr.below hB) hLl hLs) rfl ?_)
  have hszp6 : w.heap.size ≤ w5.heap.size := hsz
  rintro _ w6 ⟨oa6, oc6, L6, rfl, ho6, hos6, hm6, hE6⟩
  replace ho6 := own_mono ho6 (show w.heap.size ≤ _ by omega)
  refine ⟨hE6, ?_⟩
  replace hB := below_ext hB hE6 hsz
  replace hb1 := hb1.ext hE6
  replace hty_b1 := hty_b1.ext hE6
  replace hb2 := hb2.ext hE6
  replace hty_b2 := hty_b2.ext hE6
  replace hb4 := hb4.ext hE6
  replace hty_b4 := hty_b4.ext hE6
  replace ho5_0 := own_ext ho5_0 hE6
  replace hsz := Nat.le_trans hsz hE6.size
  refine m_q3 rfl rfl (fun w' hC' => q_build (v := .agg ⟨[.slice a5_0 ((nd).length) c5_0, .slice none 0 0, .slice oa6 ((L6).length) oc6]⟩) (fun w => by kernel_rfl) rfl) (m_last3 rfl rfl rfl (o_storet (vs := [.slice a5_0 ((nd).length) c5_0, .slice none 0 0, .slice oa6 ((L6).length) oc6]) (cs' := [.slice a5_0 ((nd).length) c5_0, .slice none 0 0, .slice oa6 ((L6).length) oc6]) Tryz.sizeOf64 rfl rfl rfl rfl hb4 (Nat.le_of_ble_eq_true rfl) rfl rfl ?_))
  intro w7 hz7 hb4 hT7 hG7
  replace hB := below_upd hB hG7 hsz (by omega)
  replace hsz : w.heap.size ≤ w7.heap.size := by rw [hz7]; exact hsz
  replace hb1 := hb1.upd hG7 (by omega)
  replace hty_b1 := hty_b1.upd hG7 (by omega)
  replace hb2 := hb2.upd hG7 (by omega)
  replace hty_b2 := hty_b2.upd hG7 (by omega)
  replace ho5_0 := own_ty_upd ho5_0 hty_b4 hG7 (by decide)
  replace ho6 := own_ty_upd ho6 hty_b4 hG7 (by decide)
  replace hos6 := OwnsI.tyupd hos6 hty_b4 hG7 (by decide)
  replace hty_b4 := hT7 _ hty_b4
  refine m_nil3 (r_seq (r_seq (r_region' (l_q (qai rfl rfl) (l_nil (r_block ?_))))))
  refine r_rounds (α := Nat × (Option Addr) × Nat × (List PV)) (fun ⟨k, oa, oc, M⟩ e wl => Knows e [(1, ptr b1 0), (2, ptr b2 0), (3, ptr b4 0), (4, vint (k : Int))] ∧ (k ≤ pl.length) ∧ (M.map PV.pn = (pl.take k).map PV.pn) ∧ (M.length = k) ∧ (Blk wl b4 [.slice a5_0 ((nd).length) c5_0, .slice oa M.length oc, .slice oa6 ((L6).length) oc6]) ∧ (wl.ownsRow w.heap.size 76 3 (.slice oa M.length oc) M.length (M.flatMap PV.enc)) ∧ (OwnsB wl w.heap.size 4 M) ∧ (Blk wl b1 [.slice na nd.length nc, .slice pa pl.length pc, .slice ca L.length cc]) ∧ (TyAt wl b1 33) ∧ (Blk wl b2 [.slice none 0 0, .slice none 0 0, .slice none 0 0]) ∧ (TyAt wl b2 64) ∧ (TyAt wl b4 64) ∧ (wl.ownsRow w.heap.size 3 1 (.slice a5_0 ((nd).length) c5_0) ((nd).length) ((nd).map vint)) ∧ (wl.ownsRow w.heap.size 27 1 (.slice oa6 ((L6).length) oc6) ((L6).length) ((L6).map SV.enc)) ∧ (OwnsI wl w5.heap.size 3 L6) ∧ (w.heap.size ≤ wl.heap.size) ∧ (Below w.heap.size w wl)) (fun ⟨k, oa, oc, M⟩ => pl.length - k) (0, none, 0, []) ?_ ?_
  ·
   exact ⟨⟨rfl, rfl, rfl, rfl, trivial⟩, (Nat.zero_le _), rfl, rfl, hb4, (World.ownsRow_nil _ _ _ _), (OwnsB.nil _ _ _), hb1, hty_b1, hb2, hty_b2, hty_b4, ho5_0, ho6, hos6, hsz, hB⟩
  ·
   rintro ⟨k, oa, oc, M⟩ el8 wl8 ⟨hkn, hk, hM, hMl, hb4, hop, hoi, hb1, hty_b1, hb2, hty_b2, hty_b4, ho5_0, ho6, hos6, hsz, hB⟩ ih8
   obtain ⟨e8, rfl⟩ := knows_env hkn
   refine r_seq (r_seq (r_region' (l_q (qmi rfl rfl) (l_q (q_fieldAddr (o' := 1) rfl fld33_1 rfl) (l_q (q_load Tryz.isAgg30 rfl ((hb1.has (o := 1) rfl)) rfl) (l_q (q_len rfl Tryz.underlying30 rfl rfl) (l_q (q_lss rfl rfl rfl) (l_nil (r_cond rfl (fun hc9 => ?_) (fun hc9 => ?_))))))))))
   ·
    replace hc9 := dt hc9
    have hkp : k < pl.length := by omega
    have hab := hPb _ (getD_lt (d := pv0) hkp)
    refine r_skip (r_seq (r_block (r_seq (r_region' (l_q (q_fieldAddr (o' := 1) rfl fld33_1 rfl) (l_q (q_load Tryz.isAgg30 rfl ((hb1.has (o := 1) rfl)) rfl) (l_q (qmi rfl rfl) ?_)))))))
    obtain ⟨b10, o10, ha10, hh10⟩ := (hpo.rpl.below hB).at (by decide) k (by omega)
    refine l_q (q_indexAddr Tryz.underlying30 Tryz.sizeOf72 rfl ha10 rfl (by omega) rfl) (l_q (q_load_agg (cs := [.slice (((pl).getD k pv0).a) (((pl).getD k pv0).ab.length) (((pl).getD k pv0).c), vint (((pl).getD k pv0).r), vint (((pl).getD k pv0).m)]) (n := 3) Tryz.isAgg72 Tryz.sizeOf72 rfl ((cells_cast (wide_at PV.len pv0 _ _ (by omega)) hh10)) rfl rfl) (l_o (o_alloct Tryz.zeroValue72 rfl rfl ?_)))
    intro b11 w11 hzl11 hzr11 _ hb11 hty_b11 hE11
    have hne_b1_b11 : b1 ≠ b11 := by have := hb1.lt; omega
    have hne_b2_b11 : b2 ≠ b11 := by have := hb2.lt; omega
    have hne_b4_b11 : b4 ≠ b11 := by have := hb4.lt; omega
    have hbs_b11 : w.heap.size ≤ b11 := Nat.le_trans hsz hzl11
    replace hB := below_ext hB hE11 hsz
    replace hb1 := hb1.ext hE11
    replace hty_b1 := hty_b1.ext hE11
    replace hb2 := hb2.ext hE11
    replace hty_b2 := hty_b2.ext hE11
    replace hb4 := hb4.ext hE11
    replace hty_b4 := hty_b4.ext hE11
    replace ho5_0 := own_ext ho5_0 hE11
    replace ho6 := own_ext ho6 hE11
    replace hos6 := hos6.ext hE11
    replace hop := own_ext hop hE11
    replace hoi := hoi.ext hE11
    replace hsz := Nat.le_trans hsz hE11.size
    refine l_o (o_storet (vs := [.slice (((pl).getD k pv0).a) (((pl).getD k pv0).ab.length) (((pl).getD k pv0).c), vint (((pl).getD k pv0).r), vint (((pl).getD k pv0).m)]) (cs' := [.slice (((pl).getD k pv0).a) (((pl).getD k pv0).ab.length) (((pl).getD k pv0).c), vint (((pl).getD k pv0).r), vint (((pl).getD k pv0).m)]) Tryz.sizeOf72 rfl rfl rfl rfl hb11 (Nat.le_of_ble_eq_true rfl) rfl rfl ?_)
    intro w12 hz12 hb11 hT12 hG12
    replace hB := below_upd hB hG12 hsz (by omega)
    replace hsz : w.heap.size ≤ w12.heap.size := by rw [hz12]; exact hsz
    replace hb1 := hb1.upd hG12 (by omega)
    replace hty_b1 := hty_b1.upd hG12 (by omega)
    replace hb2 := hb2.upd hG12 (by omega)
    replace hty_b2 := hty_b2.upd hG12 (by omega)
    replace hb4 := hb4.upd hG12 (by omega)
    replace hty_b4 := hty_b4.upd hG12 (by omega)
    replace ho5_0 := own_ty_upd ho5_0 hty_b11 hG12 (by decide)
    replace ho6 := own_ty_upd ho6 hty_b11 hG12 (by decide)
    replace hos6 := OwnsI.tyupd hos6 hty_b11 hG12 (by decide)
    replace hop := own_ty_upd hop hty_b11 hG12 (by decide)
    replace hoi := OwnsB.tyupd hoi hty_b11 hG12 (by decide)
    replace hty_b11 := hT12 _ hty_b11
    refine l_nil (r_forget [(1, .pointer _), (2, .pointer _), (3, .pointer _), (4, .int _ _), (5, .pointer _)] ⟨rfl, rfl, rfl, rfl, rfl, trivial⟩ (fun e13 => ?_))
    have hszR : w.heap.size ≤ w12.heap.size := hsz
    have hszW := Nat.le_refl w12.heap.size
    have hlt_hoi := OwnsB.under hoi
    refine r_draw3 (Cls := fun w1 w2 => (Blk w1 b4 [.slice a5_0 ((nd).length) c5_0, .slice oa M.length oc, .slice oa6 ((L6).length) oc6] → Blk w2 b4 [.slice a5_0 ((nd).length) c5_0, .slice oa M.length oc, .slice oa6 ((L6).length) oc6]) ∧ (Blk w1 b11 [.slice (((pl).getD k pv0).a) (((pl).getD k pv0).ab.length) (((pl).getD k pv0).c), vint (((pl).getD k pv0).r), vint (((pl).getD k pv0).m)] → Blk w2 b11 [.slice (((pl).getD k pv0).a) (((pl).getD k pv0).ab.length) (((pl).getD k pv0).c), vint (((pl).getD k pv0).r), vint (((pl).getD k pv0).m)])) (fun w => ⟨(fun h => h), (fun h => h)⟩) (fun a b c h1 h2 => ⟨(fun h => h2.1 (h1.1 h)), (fun h => h2.2 (h1.2 h))⟩) (.op 0 (.op 1 (.op 3 (.op 4 (.op 6 (.op 7 (.op 8 (.op 9 (.op 2 (.op 5 (.op 10 (.op 11 (.op 12 (.op 13 (.op 14 (.done)))))))))))))))) [2, 5, 11, 12, 14, 1014] 30 (by kernel_rfl) (by kernel_rfl) ?_
    intro w14 _ hE14
    replace hB := below_ext hB hE14 hsz
    replace hb1 := hb1.ext hE14
    replace hty_b1 := hty_b1.ext hE14
    replace hb2 := hb2.ext hE14
    replace hty_b2 := hty_b2.ext hE14
    replace hb4 := hb4.ext hE14
    replace hty_b4 := hty_b4.ext hE14
    replace ho5_0 := own_ext ho5_0 hE14
    replace ho6 := own_ext ho6 hE14
    replace hos6 := hos6.ext hE14
    replace hop := own_ext hop hE14
    replace hoi := hoi.ext hE14
    replace hb11 := hb11.ext hE14
    replace hty_b11 := hty_b11.ext hE14
    replace hszW := Nat.le_trans hszW hE14.size
    replace hsz := Nat.le_trans hsz hE14.size
    refine m_q3 rfl rfl (fun w' hC' => q_fieldAddr (o' := 1) rfl fld64_1 rfl) (m_q3 rfl rfl (fun w' hC' => q_load Tryz.isAgg62 rfl (((hC'.1 hb4).has (o := 1) rfl)) rfl) (m_q3 rfl rfl (fun w' hC' => q_fieldAddr (o' := 0) rfl fld72_0 rfl) (m_q3 rfl rfl (fun w' hC' => q_load Tryz.isAgg54 rfl (((hC'.2 hb11).has (o := 0) rfl)) rfl) (m_q3 rfl rfl (fun w' hC' => q_fieldAddr (o' := 1) rfl fld72_1 rfl) (m_q3 rfl rfl (fun w' hC' => q_load Tryz.isAgg3 rfl (((hC'.2 hb11).has (o := 1) rfl)) rfl) (m_q3 rfl rfl (fun w' hC' => q_fieldAddr (o' := 2) rfl fld72_2 rfl) (m_q3 rfl rfl (fun w' hC' => q_load Tryz.isAgg3 rfl (((hC'.2 hb11).has (o := 2) rfl)) rfl) ?_)))))))
    have hbl_b1 := hb1.lt
    have hbl_b2 := hb2.lt
    have hbl_b4 := hb4.lt
    have hbl_b11 := hb11.lt
    refine m_o3 rfl rfl (o_buildSlice (el := 4) (cs := []) Tryz.underlying54 el4 (by decide) (by kernel_rfl) rfl (by decide) rfl ?_)
    intro b15 w15 hzl15 hzr15 _ hb15 hE15 ho15
    refine ⟨⟨(fun h => h.ext hE15), (fun h => h.ext hE15)⟩, ?_⟩
    have hne_b1_b15 : b1 ≠ b15 := by have := hb1.lt; omega
    have hne_b2_b15 : b2 ≠ b15 := by have := hb2.lt; omega
    have hne_b4_b15 : b4 ≠ b15 := by have := hb4.lt; omega
    have hne_b11_b15 : b11 ≠ b15 := by have := hb11.lt; omega
    have hbs_b15 : w.heap.size ≤ b15 := Nat.le_trans hsz hzl15
    have hWp_b15 := hszW
    have hbW_b15 := Nat.le_trans hszW hzl15
    replace hB := below_ext hB hE15 hsz
    replace hb1 := hb1.ext hE15
    replace hty_b1 := hty_b1.ext hE15
    replace hb2 := hb2.ext hE15
    replace hty_b2 := hty_b2.ext hE15
    replace hb4 := hb4.ext hE15
    replace hty_b4 := hty_b4.ext hE15
    replace ho5_0 := own_ext ho5_0 hE15
    replace ho6 := own_ext ho6 hE15
    replace hos6 := hos6.ext hE15
    replace hop := own_ext hop hE15
    replace hoi := hoi.ext hE15
    replace hb11 := hb11.ext hE15
    replace hty_b11 := hty_b11.ext hE15
    replace hszW := Nat.le_trans hszW hE15.size
    replace hsz := Nat.le_trans hsz hE15.size
    replace ho15 := own_mono ho15 (show w12.heap.size ≤ _ by omega)
    have hbl_b1 := hb1.lt
    have hbl_b2 := hb2.lt
    have hbl_b4 := hb4.lt
    have hbl_b11 := hb11.lt
    refine m_o3 rfl rfl (o_append_map (f := Value.bool) ([]) (((pl).getD k pv0).ab) Tryz.underlying54 el4 rfl rfl ho15 rfl ((RowsP.get (hpo.rplr) (i := k) (by omega)).below hB) (fun _ => rfl) (by (try simp only [List.length_append, List.length_cons, List.length_nil, List.length_take, List.length_drop, List.length_replicate]); omega) (by omega) rfl ?_)
    intro a16 c16 w16 hz16 ho16 hG16
    refine ⟨⟨(fun h => h.step hG16 (own_ty_ne ho15 hty_b4 (by decide))), (fun h => h.step hG16 (own_ty_ne ho15 hty_b11 (by decide)))⟩, ?_⟩
    replace hB := below_own hB hG16 ho15 (by omega) hsz
    replace hsz := Nat.le_trans hsz hG16.size
    replace hb1 := hb1.step hG16 (own_ty_ne ho15 hty_b1 (by decide))
    replace hb2 := hb2.step hG16 (own_ty_ne ho15 hty_b2 (by decide))
    replace hb4 := hb4.step hG16 (own_ty_ne ho15 hty_b4 (by decide))
    replace ho5_0 := own_kept ho5_0 ho15 (by decide) hG16
    replace ho6 := own_kept ho6 ho15 (by decide) hG16
    replace hos6 := hos6.kept ho15 (by decide) hG16
    replace hop := own_kept hop ho15 (by decide) hG16
    replace hoi := OwnsB.apart hoi hlt_hoi ho15 hG16
    replace hb11 := hb11.step hG16 (own_ty_ne ho15 hty_b11 (by decide))
    replace hszW := Nat.le_trans hszW hG16.size
    replace hty_b1 := TyAt.own hty_b1 ho15 hG16 (by decide)
    replace hty_b2 := TyAt.own hty_b2 ho15 hG16 (by decide)
    replace hty_b4 := TyAt.own hty_b4 ho15 hG16 (by decide)
    replace hty_b11 := TyAt.own hty_b11 ho15 hG16 (by decide)
    refine m_q3 rfl rfl (fun w' hC' => q_build (v := .agg ⟨[.slice a16 (([] ++ (((pl).getD k pv0).ab)).length) c16, vint (((pl).getD k pv0).r), vint (((pl).getD k pv0).m)]⟩) (fun w => by kernel_rfl) rfl) ?_
    have hbl_b1 := hb1.lt
    have hbl_b2 := hb2.lt
    have hbl_b4 := hb4.lt
    have hbl_b11 := hb11.lt
    refine m_o3 rfl rfl (o_buildSlice (el := 76) (cs := [.slice a16 (([] ++ (((pl).getD k pv0).ab)).length) c16, vint (((pl).getD k pv0).r), vint (((pl).getD k pv0).m)]) Tryz.underlying62 el76 (by decide) (by kernel_rfl) rfl (by decide) rfl ?_)
    intro b17 w17 hzl17 hzr17 _ hb17 hE17 ho17
    refine ⟨⟨(fun h => h.ext hE17), (fun h => h.ext hE17)⟩, ?_⟩
    have hne_b1_b17 : b1 ≠ b17 := by have := hb1.lt; omega
    have hne_b2_b17 : b2 ≠ b17 := by have := hb2.lt; omega
    have hne_b4_b17 : b4 ≠ b17 := by have := hb4.lt; omega
    have hne_b11_b17 : b11 ≠ b17 := by have := hb11.lt; omega
    have hbs_b17 : w.heap.size ≤ b17 := Nat.le_trans hsz hzl17
    have hWp_b17 := hszW
    have hbW_b17 := Nat.le_trans hszW hzl17
    replace hB := below_ext hB hE17 hsz
    replace hb1 := hb1.ext hE17
    replace hty_b1 := hty_b1.ext hE17
    replace hb2 := hb2.ext hE17
    replace hty_b2 := hty_b2.ext hE17
    replace hb4 := hb4.ext hE17
    replace hty_b4 := hty_b4.ext hE17
    replace ho5_0 := own_ext ho5_0 hE17
    replace ho6 := own_ext ho6 hE17
    replace hos6 := hos6.ext hE17
    replace hop := own_ext hop hE17
    replace hoi := hoi.ext hE17
    replace hb11 := hb11.ext hE17
    replace hty_b11 := hty_b11.ext hE17
    replace hszW := Nat.le_trans hszW hE17.size
    replace ho16 := own_ext ho16 hE17
    replace hsz := Nat.le_trans hsz hE17.size
    replace ho17 := own_mono ho17 (show w12.heap.size ≤ _ by omega)
    have hbl_b1 := hb1.lt
    have hbl_b2 := hb2.lt
    have hbl_b4 := hb4.lt
    have hbl_b11 := hb11.lt
    refine m_o3 rfl rfl (o_append_wide PV.one (M) (([⟨a16, c16, [] ++ (((pl).getD k pv0).ab), ((pl).getD k pv0).r, ((pl).getD k pv0).m⟩] : List PV)) Tryz.underlying62 el76 rfl rfl hop rfl (Row.of_owns ho17) (by (try simp only [List.length_append, List.length_cons, List.length_nil, List.length_take, List.length_drop, List.length_replicate]); omega) (by omega) rfl ?_)
    intro a19 c19 w19 hz19 ho19 hG19
    refine ⟨⟨(fun h => h.step hG19 (own_ty_ne hop hty_b4 (by decide))), (fun h => h.step hG19 (own_ty_ne hop hty_b11 (by decide)))⟩, ?_⟩
    replace hB := below_own hB hG19 hop (by omega) hsz
    replace hsz := Nat.le_trans hsz hG19.size
    replace hb1 := hb1.step hG19 (own_ty_ne hop hty_b1 (by decide))
    replace hb2 := hb2.step hG19 (own_ty_ne hop hty_b2 (by decide))
    replace hb4 := hb4.step hG19 (own_ty_ne hop hty_b4 (by decide))
    replace ho5_0 := own_kept ho5_0 hop (by decide) hG19
    replace ho6 := own_kept ho6 hop (by decide) hG19
    replace hos6 := hos6.kept hop (by decide) hG19
    replace hoi := hoi.kept hop (by decide) hG19
    replace hszW := Nat.le_trans hszW hG19.size
    replace ho16 := own_kept ho16 hop (by decide) hG19
    replace hty_b1 := TyAt.own hty_b1 hop hG19 (by decide)
    replace hty_b2 := TyAt.own hty_b2 hop hG19 (by decide)
    replace hty_b4 := TyAt.own hty_b4 hop hG19 (by decide)
    refine m_q3 rfl rfl (fun w' hC' => q_fieldAddr (o' := 1) rfl fld64_1 rfl) (m_last3 rfl rfl rfl (o_storet (vs := [.slice a19 ((M ++ ([⟨a16, c16, [] ++ (((pl).getD k pv0).ab), ((pl).getD k pv0).r, ((pl).getD k pv0).m⟩] : List PV)).length) c19]) (cs' := [.slice a5_0 ((nd).length) c5_0, .slice a19 ((M ++ ([⟨a16, c16, [] ++ (((pl).getD k pv0).ab), ((pl).getD k pv0).r, ((pl).getD k pv0).m⟩] : List PV)).length) c19, .slice oa6 ((L6).length) oc6]) Tryz.sizeOf62 rfl rfl rfl rfl hb4 (Nat.le_of_ble_eq_true rfl) rfl rfl ?_))
    intro w20 hz20 hb4 hT20 hG20
    replace hB := below_upd hB hG20 hsz (by omega)
    replace hsz : w.heap.size ≤ w20.heap.size := by rw [hz20]; exact hsz
    replace hb1 := hb1.upd hG20 (by omega)
    replace hty_b1 := hty_b1.upd hG20 (by omega)
    replace hb2 := hb2.upd hG20 (by omega)
    replace hty_b2 := hty_b2.upd hG20 (by omega)
    replace ho5_0 := own_ty_upd ho5_0 hty_b4 hG20 (by decide)
    replace ho6 := own_ty_upd ho6 hty_b4 hG20 (by decide)
    replace hos6 := OwnsI.tyupd hos6 hty_b4 hG20 (by decide)
    replace hoi := OwnsB.tyupd hoi hty_b4 hG20 (by decide)
    replace hszW := Nat.le_trans hszW hG20.size
    replace ho16 := own_ty_upd ho16 hty_b4 hG20 (by decide)
    replace ho19 := own_ty_upd ho19 hty_b4 hG20 (by decide)
    replace hty_b4 := hT20 _ hty_b4
    refine m_nil3 (r_forget [(1, .pointer _), (2, .pointer _), (3, .pointer _), (4, .int _ _)] ⟨rfl, rfl, rfl, rfl, trivial⟩ (fun e21 => (r_inBlock (r_region' (l_q (qmi rfl rfl) (l_q (q_add rfl rfl (by omega) rfl) (l_q (qai rfl rfl) (l_nil ?_))))))))
    exact ih8 (k + 1, a19, c19, M ++ ([⟨a16, c16, [] ++ (((pl).getD k pv0).ab), ((pl).getD k pv0).r, ((pl).getD k pv0).m⟩] : List PV)) _ _ ⟨⟨rfl, rfl, rfl, (vint_eq (by omega)), trivial⟩, (by omega), (pn_snoc hkp hM), (by rw [List.length_append, hMl]; rfl), hb4, ho19, (OwnsB.snoc hoi (own_mono ho16 (by omega))), hb1, hty_b1, hb2, hty_b2, hty_b4, ho5_0, ho6, hos6, hsz, hB⟩ (by first | omega | (dsimp only; omega))
   ·
    replace hc9 := dlt hc9
    refine r_exit rfl (r_seq (r_region' (l_q (q_load_agg (n := 3) Tryz.isAgg64 Tryz.sizeOf64 rfl ((hb4.cells' (cs' := [_, _, _]) 0 3 rfl)) rfl rfl) (l_o (o_storet (vs := [.slice a5_0 ((nd).length) c5_0, .slice oa M.length oc, .slice oa6 ((L6).length) oc6]) (cs' := [.slice a5_0 ((nd).length) c5_0, .slice oa M.length oc, .slice oa6 ((L6).length) oc6]) Tryz.sizeOf64 rfl rfl rfl rfl hb2 (Nat.le_of_ble_eq_true rfl) rfl rfl ?_)))))
    intro w22 hz22 hb2 hT22 hG22
    replace hB := below_upd hB hG22 hsz (by omega)
    replace hsz : w.heap.size ≤ w22.heap.size := by rw [hz22]; exact hsz
    replace hb1 := hb1.upd hG22 (by omega)
    replace hty_b1 := hty_b1.upd hG22 (by omega)
    replace ho5_0 := own_ty_upd ho5_0 hty_b2 hG22 (by decide)
    replace ho6 := own_ty_upd ho6 hty_b2 hG22 (by decide)
    replace hos6 := OwnsI.tyupd hos6 hty_b2 hG22 (by decide)
    replace hop := own_ty_upd hop hty_b2 hG22 (by decide)
    replace hoi := OwnsB.tyupd hoi hty_b2 hG22 (by decide)
    replace hty_b2 := hT22 _ hty_b2
    refine l_nil (r_ret_ (vs := [.agg _]) rfl Tryz.func17 rfl (.nil _) ⟨⟨_, _, rfl, run_loadVarA Tryz.isAgg64 Tryz.sizeOf64 (hb2.cells' (cs' := [_, _, _]) 0 3 rfl) rfl⟩, trivial⟩ ?_)
    exact ⟨a5_0, c5_0, oa, oc, M, oa6, oc6, L6, rfl, ⟨Row.of_owns ho5_0, Row.of_owns hop, hoi.rows, Row.of_owns ho6, hos6.rows⟩, (by rw [hM, List.take_of_length_le (by omega)]), hm6, Ext.of_below hB⟩
 ·
  refine m_o3 rfl rfl (o_call Tryz.call47 rfl (list10_ret _ _ nd _ (hpo.rnd.below hB) (by omega)) rfl ?_)
  rintro _ w23 ⟨a23_0, c23_0, rfl, ho23_0, hE23⟩
  replace ho23_0 := own_mono ho23_0 (show w.heap.size ≤ _ by omega)
  refine ⟨hE23, ?_⟩
  replace hB := below_ext hB hE23 hsz
  replace hb1 := hb1.ext hE23
  replace hty_b1 := hty_b1.ext hE23
  replace hb2 := hb2.ext hE23
  replace hty_b2 := hty_b2.ext hE23
  replace hsz := Nat.le_trans hsz hE23.size
  refine m_fork3 ?_ ?_
  ·
   refine m_o3 rfl rfl (o_alloct Tryz.zeroValue64 rfl rfl ?_)
   intro b24 w24 hzl24 hzr24 _ hb24 hty_b24 hE24
   refine ⟨hE24, ?_⟩
   have hne_b1_b24 : b1 ≠ b24 := by have := hb1.lt; omega
   have hne_b2_b24 : b2 ≠ b24 := by have := hb2.lt; omega
   have hbs_b24 : w.heap.size ≤ b24 := Nat.le_trans hsz hzl24
   replace hB := below_ext hB hE24 hsz
   replace hb1 := hb1.ext hE24
   replace hty_b1 := hty_b1.ext hE24
   replace hb2 := hb2.ext hE24
   replace hty_b2 := hty_b2.ext hE24
   replace ho23_0 := own_ext ho23_0 hE24
   replace hsz := Nat.le_trans hsz hE24.size
   refine m_o3 rfl rfl (o_call Tryz.call48 rfl (rows10_ret _ _ L _ (hpo.rC.below hB) (hpo.rCr.below hB) hLl hLs) rfl ?_)
   have hszp25 : w.heap.size ≤ w24.heap.size := hsz
   rintro _ w25 ⟨oa25, oc25, L25, rfl, ho25, hos25, hm25, hE25⟩
   replace ho25 := own_mono ho25 (show w.heap.size ≤ _ by omega)
   refine ⟨hE25, ?_⟩
   replace hB := below_ext hB hE25 hsz
   replace hb1 := hb1.ext hE25
   replace hty_b1 := hty_b1.ext hE25
   replace hb2 := hb2.ext hE25
   replace hty_b2 := hty_b2.ext hE25
   replace ho23_0 := own_ext ho23_0 hE25
   replace hb24 := hb24.ext hE25
   replace hty_b24 := hty_b24.ext hE25
   replace hsz := Nat.le_trans hsz hE25.size
   refine m_q3 rfl rfl (fun w' hC' => q_build (v := .agg ⟨[.slice a23_0 ((nd).length) c23_0, .slice none 0 0, .slice oa25 ((L25).length) oc25]⟩) (fun w => by kernel_rfl) rfl) (m_last3 rfl rfl rfl (o_storet (vs := [.slice a23_0 ((nd).length) c23_0, .slice none 0 0, .slice oa25 ((L25).length) oc25]) (cs' := [.slice a23_0 ((nd).length) c23_0, .slice none 0 0, .slice oa25 ((L25).length) oc25]) Tryz.sizeOf64 rfl rfl rfl rfl hb24 (Nat.le_of_ble_eq_true rfl) rfl rfl ?_))
   intro w26 hz26 hb24 hT26 hG26
   replace hB := below_upd hB hG26 hsz (by omega)
   replace hsz : w.heap.size ≤ w26.heap.size := by rw [hz26]; exact hsz
   replace hb1 := hb1.upd hG26 (by omega)
   replace hty_b1 := hty_b1.upd hG26 (by omega)
   replace hb2 := hb2.upd hG26 (by omega)
   replace hty_b2 := hty_b2.upd hG26 (by omega)
   replace ho23_0 := own_ty_upd ho23_0 hty_b24 hG26 (by decide)
   replace ho25 := own_ty_upd ho25 hty_b24 hG26 (by decide)
   replace hos25 := OwnsI.tyupd hos25 hty_b24 hG26 (by decide)
   replace hty_b24 := hT26 _ hty_b24
   refine m_nil3 (r_seq (r_seq (r_region' (l_q (qai rfl rfl) (l_nil (r_block ?_))))))
   refine r_rounds (α := Nat × (Option Addr) × Nat × (List PV)) (fun ⟨k, oa, oc, M⟩ e wl => Knows e [(1, ptr b1 0), (2, ptr b2 0), (3, ptr b24 0), (4, vint (k : Int))] ∧ (k ≤ pl.length) ∧ (M.map PV.pn = (pl.take k).map PV.pn) ∧ (M.length = k) ∧ (Blk wl b24 [.slice a23_0 ((nd).length) c23_0, .slice oa M.length oc, .slice oa25 ((L25).length) oc25]) ∧ (wl.ownsRow w.heap.size 76 3 (.slice oa M.length oc) M.length (M.flatMap PV.enc)) ∧ (OwnsB wl w.heap.size 4 M) ∧ (Blk wl b1 [.slice na nd.length nc, .slice pa pl.length pc, .slice ca L.length cc]) ∧ (TyAt wl b1 33) ∧ (Blk wl b2 [.slice none 0 0, .slice none 0 0, .slice none 0 0]) ∧ (TyAt wl b2 64) ∧ (wl.ownsRow w.heap.size 3 1 (.slice a23_0 ((nd).length) c23_0) ((nd).length) ((nd).map vint)) ∧ (TyAt wl b24 64) ∧ (wl.ownsRow w.heap.size 27 1 (.slice oa25 ((L25).length) oc25) ((L25).length) ((L25).map SV.enc)) ∧ (OwnsI wl w24.heap.size 3 L25) ∧ (w.heap.size ≤ wl.heap.size) ∧ (Below w.heap.size w wl)) (fun ⟨k, oa, oc, M⟩ => pl.length - k) (0, none, 0, []) ?_ ?_
   ·
    exact ⟨⟨rfl, rfl, rfl, rfl, trivial⟩, (Nat.zero_le _), rfl, rfl, hb24, (World.ownsRow_nil _ _ _ _), (OwnsB.nil _ _ _), hb1, hty_b1, hb2, hty_b2, ho23_0, hty_b24, ho25, hos25, hsz, hB⟩
   ·
    rintro ⟨k, oa, oc, M⟩ el27 wl27 ⟨hkn, hk, hM, hMl, hb24, hop, hoi, hb1, hty_b1, hb2, hty_b2, ho23_0, hty_b24, ho25, hos25, hsz, hB⟩ ih27
    obtain ⟨e27, rfl⟩ := knows_env hkn
    refine r_seq (r_seq (r_region' (l_q (qmi rfl rfl) (l_q (q_fieldAddr (o' := 1) rfl fld33_1 rfl) (l_q (q_load Tryz.isAgg30 rfl ((hb1.has (o := 1) rfl)) rfl) (l_q (q_len rfl Tryz.underlying30 rfl rfl) (l_q (q_lss rfl rfl rfl) (l_nil (r_cond rfl (fun hc28 => ?_) (fun hc28 => ?_))))))))))
    ·
     replace hc28 := dt hc28
     have hkp : k < pl.length := by omega
     have hab := hPb _ (getD_lt (d := pv0) hkp)
     refine r_skip (r_seq (r_block (r_seq (r_region' (l_q (q_fieldAddr (o' := 1) rfl fld33_1 rfl) (l_q (q_load Tryz.isAgg30 rfl ((hb1.has (o := 1) rfl)) rfl) (l_q (qmi rfl rfl) ?_)))))))
     obtain ⟨b29, o29, ha29, hh29⟩ := (hpo.rpl.below hB).at (by decide) k (by omega)
     refine l_q (q_indexAddr Tryz.underlying30 Tryz.sizeOf72 rfl ha29 rfl (by omega) rfl) (l_q (q_load_agg (cs := [.slice (((pl).getD k pv0).a) (((pl).getD k pv0).ab.length) (((pl).getD k pv0).c), vint (((pl).getD k pv0).r), vint (((pl).getD k pv0).m)]) (n := 3) Tryz.isAgg72 Tryz.sizeOf72 rfl ((cells_cast (wide_at PV.len pv0 _ _ (by omega)) hh29)) rfl rfl) (l_o (o_alloct Tryz.zeroValue72 rfl rfl ?_)))
     intro b30 w30 hzl30 hzr30 _ hb30 hty_b30 hE30
     have hne_b1_b30 : b1 ≠ b30 := by have := hb1.lt; omega
     have hne_b2_b30 : b2 ≠ b30 := by have := hb2.lt; omega
     have hne_b24_b30 : b24 ≠ b30 := by have := hb24.lt; omega
     have hbs_b30 : w.heap.size ≤ b30 := Nat.le_trans hsz hzl30
     replace hB := below_ext hB hE30 hsz
     replace hb1 := hb1.ext hE30
     replace hty_b1 := hty_b1.ext hE30
     replace hb2 := hb2.ext hE30
     replace hty_b2 := hty_b2.ext hE30
     replace ho23_0 := own_ext ho23_0 hE30
     replace hb24 := hb24.ext hE30
     replace hty_b24 := hty_b24.ext hE30
     replace ho25 := own_ext ho25 hE30
     replace hos25 := hos25.ext hE30
     replace hop := own_ext hop hE30
     replace hoi := hoi.ext hE30
     replace hsz := Nat.le_trans hsz hE30.size
     refine l_o (o_storet (vs := [.slice (((pl).getD k pv0).a) (((pl).getD k pv0).ab.length) (((pl).getD k pv0).c), vint (((pl).getD k pv0).r), vint (((pl).getD k pv0).m)]) (cs' := [.slice (((pl).getD k pv0).a) (((pl).getD k pv0).ab.length) (((pl).getD k pv0).c), vint (((pl).getD k pv0).r), vint (((pl).getD k pv0).m)]) Tryz.sizeOf72 rfl rfl rfl rfl hb30 (Nat.le_of_ble_eq_true rfl) rfl rfl ?_)
     intro w31 hz31 hb30 hT31 hG31
     replace hB := below_upd hB hG31 hsz (by omega)
     replace hsz : w.heap.size ≤ w31.heap.size := by rw [hz31]; exact hsz
     replace hb1 := hb1.upd hG31 (by omega)
     replace hty_b1 := hty_b1.upd hG31 (by omega)
     replace hb2 := hb2.upd hG31 (by omega)
     replace hty_b2 := hty_b2.upd hG31 (by omega)
     replace ho23_0 := own_ty_upd ho23_0 hty_b30 hG31 (by decide)
     replace hb24 := hb24.upd hG31 (by omega)
     replace hty_b24 := hty_b24.upd hG31 (by omega)
     replace ho25 := own_ty_upd ho25 hty_b30 hG31 (by decide)
     replace hos25 := OwnsI.tyupd hos25 hty_b30 hG31 (by decide)
     replace hop := own_ty_upd hop hty_b30 hG31 (by decide)
     replace hoi := OwnsB.tyupd hoi hty_b30 hG31 (by decide)
     replace hty_b30 := hT31 _ hty_b30
     refine l_nil (r_forget [(1, .pointer _), (2, .pointer _), (3, .pointer _), (4, .int _ _), (5, .pointer _)] ⟨rfl, rfl, rfl, rfl, rfl, trivial⟩ (fun e32 => ?_))
     have hszR : w.heap.size ≤ w31.heap.size := hsz
     have hszW := Nat.le_refl w31.heap.size
     have hlt_hoi := OwnsB.under hoi
     refine r_draw3 (Cls := fun w1 w2 => (Blk w1 b24 [.slice a23_0 ((nd).length) c23_0, .slice oa M.length oc, .slice oa25 ((L25).length) oc25] → Blk w2 b24 [.slice a23_0 ((nd).length) c23_0, .slice oa M.length oc, .slice oa25 ((L25).length) oc25]) ∧ (Blk w1 b30 [.slice (((pl).getD k pv0).a) (((pl).getD k pv0).ab.length) (((pl).getD k pv0).c), vint (((pl).getD k pv0).r), vint (((pl).getD k pv0).m)] → Blk w2 b30 [.slice (((pl).getD k pv0).a) (((pl).getD k pv0).ab.length) (((pl).getD k pv0).c), vint (((pl).getD k pv0).r), vint (((pl).getD k pv0).m)])) (fun w => ⟨(fun h => h), (fun h => h)⟩) (fun a b c h1 h2 => ⟨(fun h => h2.1 (h1.1 h)), (fun h => h2.2 (h1.2 h))⟩) (.op 0 (.op 1 (.op 3 (.op 4 (.op 6 (.op 7 (.op 8 (.op 9 (.op 2 (.op 5 (.op 10 (.op 11 (.op 12 (.op 13 (.op 14 (.done)))))))))))))))) [2, 5, 11, 12, 14, 1014] 30 (by kernel_rfl) (by kernel_rfl) ?_
     intro w33 _ hE33
     replace hB := below_ext hB hE33 hsz
     replace hb1 := hb1.ext hE33
     replace hty_b1 := hty_b1.ext hE33
     replace hb2 := hb2.ext hE33
     replace hty_b2 := hty_b2.ext hE33
     replace ho23_0 := own_ext ho23_0 hE33
     replace hb24 := hb24.ext hE33
     replace hty_b24 := hty_b24.ext hE33
     replace ho25 := own_ext ho25 hE33
     replace hos25 := hos25.ext hE33
     replace hop := own_ext hop hE33
     replace hoi := hoi.ext hE33
     replace hb30 := hb30.ext hE33
     replace hty_b30 := hty_b30.ext hE33
     replace hszW := Nat.le_trans hszW hE33.size
     replace hsz := Nat.le_trans hsz hE33.size
     refine m_q3 rfl rfl (fun w' hC' => q_fieldAddr (o' := 1) rfl fld64_1 rfl) (m_q3 rfl rfl (fun w' hC' => q_load Tryz.isAgg62 rfl (((hC'.1 hb24).has (o := 1) rfl)) rfl) (m_q3 rfl rfl (fun w' hC' => q_fieldAddr (o' := 0) rfl fld72_0 rfl) (m_q3 rfl rfl (fun w' hC' => q_load Tryz.isAgg54 rfl (((hC'.2 hb30).has (o := 0) rfl)) rfl) (m_q3 rfl rfl (fun w' hC' => q_fieldAddr (o' := 1) rfl fld72_1 rfl) (m_q3 rfl rfl (fun w' hC' => q_load Tryz.isAgg3 rfl (((hC'.2 hb30).has (o := 1) rfl)) rfl) (m_q3 rfl rfl (fun w' hC' => q_fieldAddr (o' := 2) rfl fld72_2 rfl) (m_q3 rfl rfl (fun w' hC' => q_load Tryz.isAgg3 rfl (((hC'.2 hb30).has (o := 2) rfl)) rfl) ?_)))))))
     have hbl_b1 := hb1.lt
     have hbl_b2 := hb2.lt
     have hbl_b24 := hb24.lt
     have hbl_b30 := hb30.lt
     refine m_o3 rfl rfl (o_buildSlice (el := 4) (cs := []) Tryz.underlying54 el4 (by decide) (by kernel_rfl) rfl (by decide) rfl ?_)
     intro b34 w34 hzl34 hzr34 _ hb34 hE34 ho34
     refine ⟨⟨(fun h => h.ext hE34), (fun h => h.ext hE34)⟩, ?_⟩
     have hne_b1_b34 : b1 ≠ b34 := by have := hb1.lt; omega
     have hne_b2_b34 : b2 ≠ b34 := by have := hb2.lt; omega
     have hne_b24_b34 : b24 ≠ b34 := by have := hb24.lt; omega
     have hne_b30_b34 : b30 ≠ b34 := by have := hb30.lt; omega
     have hbs_b34 : w.heap.size ≤ b34 := Nat.le_trans hsz hzl34
     have hWp_b34 := hszW
     have hbW_b34 := Nat.le_trans hszW hzl34
     replace hB := below_ext hB hE34 hsz
     replace hb1 := hb1.ext hE34
     replace hty_b1 := hty_b1.ext hE34
     replace hb2 := hb2.ext hE34
     replace hty_b2 := hty_b2.ext hE34
     replace ho23_0 := own_ext ho23_0 hE34
     replace hb24 := hb24.ext hE34
     replace hty_b24 := hty_b24.ext hE34
     replace ho25 := own_ext ho25 hE34
     replace hos25 := hos25.ext hE34
     replace hop := own_ext hop hE34
     replace hoi := hoi.ext hE34
     replace hb30 := hb30.ext hE34
     replace hty_b30 := hty_b30.ext hE34
     replace hszW := Nat.le_trans hszW hE34.size
     replace hsz := Nat.le_trans hsz hE34.size
     replace ho34 := own_mono ho34 (show w31.heap.size ≤ _ by omega)
     have hbl_b1 := hb1.lt
     have hbl_b2 := hb2.lt
     have hbl_b24 := hb24.lt
     have hbl_b30 := hb30.lt
     refine m_o3 rfl rfl (o_append_map (f := Value.bool) ([]) (((pl).getD k pv0).ab) Tryz.underlying54 el4 rfl rfl ho34 rfl ((RowsP.get (hpo.rplr) (i := k) (by omega)).below hB) (fun _ => rfl) (by (try simp only [List.length_append, List.length_cons, List.length_nil, List.length_take, List.length_drop, List.length_replicate]); omega) (by omega) rfl ?_)
     intro a35 c35 w35 hz35 ho35 hG35
     refine ⟨⟨(fun h => h.step hG35 (own_ty_ne ho34 hty_b24 (by decide))), (fun h => h.step hG35 (own_ty_ne ho34 hty_b30 (by decide)))⟩, ?_⟩
     replace hB := below_own hB hG35 ho34 (by omega) hsz
     replace hsz := Nat.le_trans hsz hG35.size
     replace hb1 := hb1.step hG35 (own_ty_ne ho34 hty_b1 (by decide))
     replace hb2 := hb2.step hG35 (own_ty_ne ho34 hty_b2 (by decide))
     replace ho23_0 := own_kept ho23_0 ho34 (by decide) hG35
     replace hb24 := hb24.step hG35 (own_ty_ne ho34 hty_b24 (by decide))
     replace ho25 := own_kept ho25 ho34 (by decide) hG35
     replace hos25 := hos25.kept ho34 (by decide) hG35
     replace hop := own_kept hop ho34 (by decide) hG35
     replace hoi := OwnsB.apart hoi hlt_hoi ho34 hG35
     replace hb30 := hb30.step hG35 (own_ty_ne ho34 hty_b30 (by decide))
     replace hszW := Nat.le_trans hszW hG35.size
     replace hty_b1 := TyAt.own hty_b1 ho34 hG35 (by decide)
     replace hty_b2 := TyAt.own hty_b2 ho34 hG35 (by decide)
     replace hty_b24 := TyAt.own hty_b24 ho34 hG35 (by decide)
     replace hty_b30 := TyAt.own hty_b30 ho34 hG35 (by decide)
     refine m_q3 rfl rfl (fun w' hC' => q_build (v := .agg ⟨[.slice a35 (([] ++ (((pl).getD k pv0).ab)).length) c35, vint (((pl).getD k pv0).r), vint (((pl).getD k pv0).m)]⟩) (fun w => by kernel_rfl) rfl) ?_
     have hbl_b1 := hb1.lt
     have hbl_b2 := hb2.lt
     have hbl_b24 := hb24.lt
     have hbl_b30 := hb30.lt
     refine m_o3 rfl rfl (o_buildSlice (el := 76) (cs := [.slice a35 (([] ++ (((pl).getD k pv0).ab)).length) c35, vint (((pl).getD k pv0).r), vint (((pl).getD k pv0).m)]) Tryz.underlying62 el76 (by decide) (by kernel_rfl) rfl (by decide) rfl ?_)
     intro b36 w36 hzl36 hzr36 _ hb36 hE36 ho36
     refine ⟨⟨(fun h => h.ext hE36), (fun h => h.ext hE36)⟩, ?_⟩
     have hne_b1_b36 : b1 ≠ b36 := by have := hb1.lt; omega
     have hne_b2_b36 : b2 ≠ b36 := by have := hb2.lt; omega
     have hne_b24_b36 : b24 ≠ b36 := by have := hb24.lt; omega
     have hne_b30_b36 : b30 ≠ b36 := by have := hb30.lt; omega
     have hbs_b36 : w.heap.size ≤ b36 := Nat.le_trans hsz hzl36
     have hWp_b36 := hszW
     have hbW_b36 := Nat.le_trans hszW hzl36
     replace hB := below_ext hB hE36 hsz
     replace hb1 := hb1.ext hE36
     replace hty_b1 := hty_b1.ext hE36
     replace hb2 := hb2.ext hE36
     replace hty_b2 := hty_b2.ext hE36
     replace ho23_0 := own_ext ho23_0 hE36
     replace hb24 := hb24.ext hE36
     replace hty_b24 := hty_b24.ext hE36
     replace ho25 := own_ext ho25 hE36
     replace hos25 := hos25.ext hE36
     replace hop := own_ext hop hE36
     replace hoi := hoi.ext hE36
     replace hb30 := hb30.ext hE36
     replace hty_b30 := hty_b30.ext hE36
     replace hszW := Nat.le_trans hszW hE36.size
     replace ho35 := own_ext ho35 hE36
     replace hsz := Nat.le_trans hsz hE36.size
     replace ho36 := own_mono ho36 (show w31.heap.size ≤ _ by omega)
     have hbl_b1 := hb1.lt
     have hbl_b2 := hb2.lt
     have hbl_b24 := hb24.lt
     have hbl_b30 := hb30.lt
     refine m_o3 rfl rfl (o_append_wide PV.one (M) (([⟨a35, c35, [] ++ (((pl).getD k pv0).ab), ((pl).getD k pv0).r, ((pl).getD k pv0).m⟩] : List PV)) Tryz.underlying62 el76 rfl rfl hop rfl (Row.of_owns ho36) (by (try simp only [List.length_append, List.length_cons, List.length_nil, List.length_take, List.length_drop, List.length_replicate]); omega) (by omega) rfl ?_)
     intro a38 c38 w38 hz38 ho38 hG38
     refine ⟨⟨(fun h => h.step hG38 (own_ty_ne hop hty_b24 (by decide))), (fun h => h.step hG38 (own_ty_ne hop hty_b30 (by decide)))⟩, ?_⟩
     replace hB := below_own hB hG38 hop (by omega) hsz
     replace hsz := Nat.le_trans hsz hG38.size
     replace hb1 := hb1.step hG38 (own_ty_ne hop hty_b1 (by decide))
     replace hb2 := hb2.step hG38 (own_ty_ne hop hty_b2 (by decide))
     replace ho23_0 := own_kept ho23_0 hop (by decide) hG38
     replace hb24 := hb24.step hG38 (own_ty_ne hop hty_b24 (by decide))
     replace ho25 := own_kept ho25 hop (by decide) hG38
     replace hos25 := hos25.kept hop (by decide) hG38
     replace hoi := hoi.kept hop (by decide) hG38
     replace hszW := Nat.le_trans hszW hG38.size
     replace ho35 := own_kept ho35 hop (by decide) hG38
     replace hty_b1 := TyAt.own hty_b1 hop hG38 (by decide)
     replace hty_b2 := TyAt.own hty_b2 hop hG38 (by decide)
     replace hty_b24 := TyAt.own hty_b24 hop hG38 (by decide)
     refine m_q3 rfl rfl (fun w' hC' => q_fieldAddr (o' := 1) rfl fld64_1 rfl) (m_last3 rfl rfl rfl (o_storet (vs := [.slice a38 ((M ++ ([⟨a35, c35, [] ++ (((pl).getD k pv0).ab), ((pl).getD k pv0).r, ((pl).getD k pv0).m⟩] : List PV)).length) c38]) (cs' := [.slice a23_0 ((nd).length) c23_0, .slice a38 ((M ++ ([⟨a35, c35, [] ++ (((pl).getD k pv0).ab), ((pl).getD k pv0).r, ((pl).getD k pv0).m⟩] : List PV)).length) c38, .slice oa25 ((L25).length) oc25]) Tryz.sizeOf62 rfl rfl rfl rfl hb24 (Nat.le_of_ble_eq_true rfl) rfl rfl ?_))
     intro w39 hz39 hb24 hT39 hG39
     replace hB := below_upd hB hG39 hsz (by omega)
     replace hsz : w.heap.size ≤ w39.heap.size := by rw [hz39]; exact hsz
     replace hb1 := hb1.upd hG39 (by omega)
     replace hty_b1 := hty_b1.upd hG39 (by omega)
     replace hb2 := hb2.upd hG39 (by omega)
     replace hty_b2 := hty_b2.upd hG39 (by omega)
     replace ho23_0 := own_ty_upd ho23_0 hty_b24 hG39 (by decide)
     replace ho25 := own_ty_upd ho25 hty_b24 hG39 (by decide)
     replace hos25 := OwnsI.tyupd hos25 hty_b24 hG39 (by decide)
     replace hoi := OwnsB.tyupd hoi hty_b24 hG39 (by decide)
     replace hszW := Nat.le_trans hszW hG39.size
     replace ho35 := own_ty_upd ho35 hty_b24 hG39 (by decide)
     replace ho38 := own_ty_upd ho38 hty_b24 hG39 (by decide)
     replace hty_b24 := hT39 _ hty_b24
     refine m_nil3 (r_forget [(1, .pointer _), (2, .pointer _), (3, .pointer _), (4, .int _ _)] ⟨rfl, rfl, rfl, rfl, trivial⟩ (fun e40 => (r_inBlock (r_region' (l_q (qmi rfl rfl) (l_q (q_add rfl rfl (by omega) rfl) (l_q (qai rfl rfl) (l_nil ?_))))))))
     exact ih27 (k + 1, a38, c38, M ++ ([⟨a35, c35, [] ++ (((pl).getD k pv0).ab), ((pl).getD k pv0).r, ((pl).getD k pv0).m⟩] : List PV)) _ _ ⟨⟨rfl, rfl, rfl, (vint_eq (by omega)), trivial⟩, (by omega), (pn_snoc hkp hM), (by rw [List.length_append, hMl]; rfl), hb24, ho38, (OwnsB.snoc hoi (own_mono ho35 (by omega))), hb1, hty_b1, hb2, hty_b2, ho23_0, hty_b24, ho25, hos25, hsz, hB⟩ (by first | omega | (dsimp only; omega))
    ·
     replace hc28 := dlt hc28
     refine r_exit rfl (r_seq (r_region' (l_q (q_load_agg (n := 3) Tryz.isAgg64 Tryz.sizeOf64 rfl ((hb24.cells' (cs' := [_, _, _]) 0 3 rfl)) rfl rfl) (l_o (o_storet (vs := [.slice a23_0 ((nd).length) c23_0, .slice oa M.length oc, .slice oa25 ((L25).length) oc25]) (cs' := [.slice a23_0 ((nd).length) c23_0, .slice oa M.length oc, .slice oa25 ((L25).length) oc25]) Tryz.sizeOf64 rfl rfl rfl rfl hb2 (Nat.le_of_ble_eq_true rfl) rfl rfl ?_)))))
     intro w41 hz41 hb2 hT41 hG41
     replace hB := below_upd hB hG41 hsz (by omega)
     replace hsz : w.heap.size ≤ w41.heap.size := by rw [hz41]; exact hsz
     replace hb1 := hb1.upd hG41 (by omega)
     replace hty_b1 := hty_b1.upd hG41 (by omega)
     replace ho23_0 := own_ty_upd ho23_0 hty_b2 hG41 (by decide)
     replace ho25 := own_ty_upd ho25 hty_b2 hG41 (by decide)
     replace hos25 := OwnsI.tyupd hos25 hty_b2 hG41 (by decide)
     replace hop := own_ty_upd hop hty_b2 hG41 (by decide)
     replace hoi := OwnsB.tyupd hoi hty_b2 hG41 (by decide)
     replace hty_b2 := hT41 _ hty_b2
     refine l_nil (r_ret_ (vs := [.agg _]) rfl Tryz.func17 rfl (.nil _) ⟨⟨_, _, rfl, run_loadVarA Tryz.isAgg64 Tryz.sizeOf64 (hb2.cells' (cs' := [_, _, _]) 0 3 rfl) rfl⟩, trivial⟩ ?_)
     exact ⟨a23_0, c23_0, oa, oc, M, oa25, oc25, L25, rfl, ⟨Row.of_owns ho23_0, Row.of_owns hop, hoi.rows, Row.of_owns ho25, hos25.rows⟩, (by rw [hM, List.take_of_length_le (by omega)]), hm25, Ext.of_below hB⟩
  ·
   refine m_o3 rfl rfl (o_call Tryz.call48 rfl (rows10_ret _ _ L _ (hpo.rC.below hB) (hpo.rCr.below hB) hLl hLs) rfl ?_)
   have hszp42 : w.heap.size ≤ w23.heap.size := hsz
   rintro _ w42 ⟨oa42, oc42, L42, rfl, ho42, hos42, hm42, hE42⟩
   replace ho42 := own_mono ho42 (show w.heap.size ≤ _ by omega)
   refine ⟨hE42, ?_⟩
   replace hB := below_ext hB hE42 hsz
   replace hb1 := hb1.ext hE42
   replace hty_b1 := hty_b1.ext hE42
   replace hb2 := hb2.ext hE42
   replace hty_b2 := hty_b2.ext hE42
   replace ho23_0 := own_ext ho23_0 hE42
   replace hsz := Nat.le_trans hsz hE42.size
   refine m_q3 rfl rfl (fun w' hC' => q_build (v := .agg ⟨[.slice a23_0 ((nd).length) c23_0, .slice none 0 0, .slice oa42 ((L42).length) oc42]⟩) (fun w => by kernel_rfl) rfl) (m_o3 rfl rfl (o_alloct Tryz.zeroValue64 rfl rfl ?_))
   intro b43 w43 hzl43 hzr43 _ hb43 hty_b43 hE43
   refine ⟨hE43, ?_⟩
   have hne_b1_b43 : b1 ≠ b43 := by have := hb1.lt; omega
   have hne_b2_b43 : b2 ≠ b43 := by have := hb2.lt; omega
   have hbs_b43 : w.heap.size ≤ b43 := Nat.le_trans hsz hzl43
   replace hB := below_ext hB hE43 hsz
   replace hb1 := hb1.ext hE43
   replace hty_b1 := hty_b1.ext hE43
   replace hb2 := hb2.ext hE43
   replace hty_b2 := hty_b2.ext hE43
   replace ho23_0 := own_ext ho23_0 hE43
   replace ho42 := own_ext ho42 hE43
   replace hos42 := hos42.ext hE43
   replace hsz := Nat.le_trans hsz hE43.size
   refine m_last3 rfl rfl rfl (o_storet (vs := [.slice a23_0 ((nd).length) c23_0, .slice none 0 0, .slice oa42 ((L42).length) oc42]) (cs' := [.slice a23_0 ((nd).length) c23_0, .slice none 0 0, .slice oa42 ((L42).length) oc42]) Tryz.sizeOf64 rfl rfl rfl rfl hb43 (Nat.le_of_ble_eq_true rfl) rfl rfl ?_)
   intro w44 hz44 hb43 hT44 hG44
   replace hB := below_upd hB hG44 hsz (by omega)
   replace hsz : w.heap.size ≤ w44.heap.size := by rw [hz44]; exact hsz
   replace hb1 := hb1.upd hG44 (by omega)
   replace hty_b1 := hty_b1.upd hG44 (by omega)
   replace hb2 := hb2.upd hG44 (by omega)
   replace hty_b2 := hty_b2.upd hG44 (by omega)
   replace ho23_0 := own_ty_upd ho23_0 hty_b43 hG44 (by decide)
   replace ho42 := own_ty_upd ho42 hty_b43 hG44 (by decide)
   replace hos42 := OwnsI.tyupd hos42 hty_b43 hG44 (by decide)
   replace hty_b43 := hT44 _ hty_b43
   refine m_nil3 (r_seq (r_seq (r_region' (l_q (qai rfl rfl) (l_nil (r_block ?_))))))
   refine r_rounds (α := Nat × (Option Addr) × Nat × (List PV)) (fun ⟨k, oa, oc, M⟩ e wl => Knows e [(1, ptr b1 0), (2, ptr b2 0), (3, ptr b43 0), (4, vint (k : Int))] ∧ (k ≤ pl.length) ∧ (M.map PV.pn = (pl.take k).map PV.pn) ∧ (M.length = k) ∧ (Blk wl b43 [.slice a23_0 ((nd).length) c23_0, .slice oa M.length oc, .slice oa42 ((L42).length) oc42]) ∧ (wl.ownsRow w.heap.size 76 3 (.slice oa M.length oc) M.length (M.flatMap PV.enc)) ∧ (OwnsB wl w.heap.size 4 M) ∧ (Blk wl b1 [.slice na nd.length nc, .slice pa pl.length pc, .slice ca L.length cc]) ∧ (TyAt wl b1 33) ∧ (Blk wl b2 [.slice none 0 0, .slice none 0 0, .slice none 0 0]) ∧ (TyAt wl b2 64) ∧ (wl.ownsRow w.heap.size 3 1 (.slice a23_0 ((nd).length) c23_0) ((nd).length) ((nd).map vint)) ∧ (wl.ownsRow w.heap.size 27 1 (.slice oa42 ((L42).length) oc42) ((L42).length) ((L42).map SV.enc)) ∧ (OwnsI wl w23.heap.size 3 L42) ∧ (TyAt wl b43 64) ∧ (w.heap.size ≤ wl.heap.size) ∧ (Below w.heap.size w wl)) (fun ⟨k, oa, oc, M⟩ => pl.length - k) (0, none, 0, []) ?_ ?_
   ·
    exact ⟨⟨rfl, rfl, rfl, rfl, trivial⟩, (Nat.zero_le _), rfl, rfl, hb43, (World.ownsRow_nil _ _ _ _), (OwnsB.nil _ _ _), hb1, hty_b1, hb2, hty_b2, ho23_0, ho42, hos42, hty_b43, hsz, hB⟩
   ·
    rintro ⟨k, oa, oc, M⟩ el45 wl45 ⟨hkn, hk, hM, hMl, hb43, hop, hoi, hb1, hty_b1, hb2, hty_b2, ho23_0, ho42, hos42, hty_b43, hsz, hB⟩ ih45
    obtain ⟨e45, rfl⟩ := knows_env hkn
    refine r_seq (r_seq (r_region' (l_q (qmi rfl rfl) (l_q (q_fieldAddr (o' := 1) rfl fld33_1 rfl) (l_q (q_load Tryz.isAgg30 rfl ((hb1.has (o := 1) rfl)) rfl) (l_q (q_len rfl Tryz.underlying30 rfl rfl) (l_q (q_lss rfl rfl rfl) (l_nil (r_cond rfl (fun hc46 => ?_) (fun hc46 => ?_))))))))))
    ·
     replace hc46 := dt hc46
     have hkp : k < pl.length := by omega
     have hab := hPb _ (getD_lt (d := pv0) hkp)
     refine r_skip (r_seq (r_block (r_seq (r_region' (l_q (q_fieldAddr (o' := 1) rfl fld33_1 rfl) (l_q (q_load Tryz.isAgg30 rfl ((hb1.has (o := 1) rfl)) rfl) (l_q (qmi rfl rfl) ?_)))))))
     obtain ⟨b47, o47, ha47, hh47⟩ := (hpo.rpl.below hB).at (by decide) k (by omega)
     refine l_q (q_indexAddr Tryz.underlying30 Tryz.sizeOf72 rfl ha47 rfl (by omega) rfl) (l_q (q_load_agg (cs := [.slice (((pl).getD k pv0).a) (((pl).getD k pv0).ab.length) (((pl).getD k pv0).c), vint (((pl).getD k pv0).r), vint (((pl).getD k pv0).m)]) (n := 3) Tryz.isAgg72 Tryz.sizeOf72 rfl ((cells_cast (wide_at PV.len pv0 _ _ (by omega)) hh47)) rfl rfl) (l_o (o_alloct Tryz.zeroValue72 rfl rfl ?_)))
     intro b48 w48 hzl48 hzr48 _ hb48 hty_b48 hE48
     have hne_b1_b48 : b1 ≠ b48 := by have := hb1.lt; omega
     have hne_b2_b48 : b2 ≠ b48 := by have := hb2.lt; omega
     have hne_b43_b48 : b43 ≠ b48 := by have := hb43.lt; omega
     have hbs_b48 : w.heap.size ≤ b48 := Nat.le_trans hsz hzl48
     replace hB := below_ext hB hE48 hsz
     replace hb1 := hb1.ext hE48
     replace hty_b1 := hty_b1.ext hE48
     replace hb2 := hb2.ext hE48
     replace hty_b2 := hty_b2.ext hE48
     replace ho23_0 := own_ext ho23_0 hE48
     replace ho42 := own_ext ho42 hE48
     replace hos42 := hos42.ext hE48
     replace hb43 := hb43.ext hE48
     replace hty_b43 := hty_b43.ext hE48
     replace hop := own_ext hop hE48
     replace hoi := hoi.ext hE48
     replace hsz := Nat.le_trans hsz hE48.size
     refine l_o (o_storet (vs := [.slice (((pl).getD k pv0).a) (((pl).getD k pv0).ab.length) (((pl).getD k pv0).c), vint (((pl).getD k pv0).r), vint (((pl).getD k pv0).m)]) (cs' := [.slice (((pl).getD k pv0).a) (((pl).getD k pv0).ab.length) (((pl).getD k pv0).c), vint (((pl).getD k pv0).r), vint (((pl).getD k pv0).m)]) Tryz.sizeOf72 rfl rfl rfl rfl hb48 (Nat.le_of_ble_eq_true rfl) rfl rfl ?_)
     intro w49 hz49 hb48 hT49 hG49
     replace hB := below_upd hB hG49 hsz (by omega)
     replace hsz : w.heap.size ≤ w49.heap.size := by rw [hz49]; exact hsz
     replace hb1 := hb1.upd hG49 (by omega)
     replace hty_b1 := hty_b1.upd hG49 (by omega)
     replace hb2 := hb2.upd hG49 (by omega)
     replace hty_b2 := hty_b2.upd hG49 (by omega)
     replace ho23_0 := own_ty_upd ho23_0 hty_b48 hG49 (by decide)
     replace ho42 := own_ty_upd ho42 hty_b48 hG49 (by decide)
     replace hos42 := OwnsI.tyupd hos42 hty_b48 hG49 (by decide)
     replace hb43 := hb43.upd hG49 (by omega)
     replace hty_b43 := hty_b43.upd hG49 (by omega)
     replace hop := own_ty_upd hop hty_b48 hG49 (by decide)
     replace hoi := OwnsB.tyupd hoi hty_b48 hG49 (by decide)
     replace hty_b48 := hT49 _ hty_b48
     refine l_nil (r_forget [(1, .pointer _), (2, .pointer _), (3, .pointer _), (4, .int _ _), (5, .pointer _)] ⟨rfl, rfl, rfl, rfl, rfl, trivial⟩ (fun e50 => ?_))
     have hszR : w.heap.size ≤ w49.heap.size := hsz
     have hszW := Nat.le_refl w49.heap.size
     have hlt_hoi := OwnsB.under hoi
     refine r_draw3 (Cls := fun w1 w2 => (Blk w1 b43 [.slice a23_0 ((nd).length) c23_0, .slice oa M.length oc, .slice oa42 ((L42).length) oc42] → Blk w2 b43 [.slice a23_0 ((nd).length) c23_0, .slice oa M.length oc, .slice oa42 ((L42).length) oc42]) ∧ (Blk w1 b48 [.slice (((pl).getD k pv0).a) (((pl).getD k pv0).ab.length) (((pl).getD k pv0).c), vint (((pl).getD k pv0).r), vint (((pl).getD k pv0).m)] → Blk w2 b48 [.slice (((pl).getD k pv0).a) (((pl).getD k pv0).ab.length) (((pl).getD k pv0).c), vint (((pl).getD k pv0).r), vint (((pl).getD k pv0).m)])) (fun w => ⟨(fun h => h), (fun h => h)⟩) (fun a b c h1 h2 => ⟨(fun h => h2.1 (h1.1 h)), (fun h => h2.2 (h1.2 h))⟩) (.op 0 (.op 1 (.op 3 (.op 4 (.op 6 (.op 7 (.op 8 (.op 9 (.op 2 (.op 5 (.op 10 (.op 11 (.op 12 (.op 13 (.op 14 (.done)))))))))))))))) [2, 5, 11, 12, 14, 1014] 30 (by kernel_rfl) (by kernel_rfl) ?_
     intro w51 _ hE51
     replace hB := below_ext hB hE51 hsz
     replace hb1 := hb1.ext hE51
     replace hty_b1 := hty_b1.ext hE51
     replace hb2 := hb2.ext hE51
     replace hty_b2 := hty_b2.ext hE51
     replace ho23_0 := own_ext ho23_0 hE51
     replace ho42 := own_ext ho42 hE51
     replace hos42 := hos42.ext hE51
     replace hb43 := hb43.ext hE51
     replace hty_b43 := hty_b43.ext hE51
     replace hop := own_ext hop hE51
     replace hoi := hoi.ext hE51
     replace hb48 := hb48.ext hE51
     replace hty_b48 := hty_b48.ext hE51
     replace hszW := Nat.le_trans hszW hE51.size
     replace hsz := Nat.le_trans hsz hE51.size
     refine m_q3 rfl rfl (fun w' hC' => q_fieldAddr (o' := 1) rfl fld64_1 rfl) (m_q3 rfl rfl (fun w' hC' => q_load Tryz.isAgg62 rfl (((hC'.1 hb43).has (o := 1) rfl)) rfl) (m_q3 rfl rfl (fun w' hC' => q_fieldAddr (o' := 0) rfl fld72_0 rfl) (m_q3 rfl rfl (fun w' hC' => q_load Tryz.isAgg54 rfl (((hC'.2 hb48).has (o := 0) rfl)) rfl) (m_q3 rfl rfl (fun w' hC' => q_fieldAddr (o' := 1) rfl fld72_1 rfl) (m_q3 rfl rfl (fun w' hC' => q_load Tryz.isAgg3 rfl (((hC'.2 hb48).has (o := 1) rfl)) rfl) (m_q3 rfl rfl (fun w' hC' => q_fieldAddr (o' := 2) rfl fld72_2 rfl) (m_q3 rfl rfl (fun w' hC' => q_load Tryz.isAgg3 rfl (((hC'.2 hb48).has (o := 2) rfl)) rfl) ?_)))))))
     have hbl_b1 := hb1.lt
     have hbl_b2 := hb2.lt
     have hbl_b43 := hb43.lt
     have hbl_b48 := hb48.lt
     refine m_o3 rfl rfl (o_buildSlice (el := 4) (cs := []) Tryz.underlying54 el4 (by decide) (by kernel_rfl) rfl (by decide) rfl ?_)
     intro b52 w52 hzl52 hzr52 _ hb52 hE52 ho52
     refine ⟨⟨(fun h => h.ext hE52), (fun h => h.ext hE52)⟩, ?_⟩
     have hne_b1_b52 : b1 ≠ b52 := by have := hb1.lt; omega
     have hne_b2_b52 : b2 ≠ b52 := by have := hb2.lt; omega
     have hne_b43_b52 : b43 ≠ b52 := by have := hb43.lt; omega
     have hne_b48_b52 : b48 ≠ b52 := by have := hb48.lt; omega
     have hbs_b52 : w.heap.size ≤ b52 := Nat.le_trans hsz hzl52
     have hWp_b52 := hszW
     have hbW_b52 := Nat.le_trans hszW hzl52
     replace hB := below_ext hB hE52 hsz
     replace hb1 := hb1.ext hE52
     replace hty_b1 := hty_b1.ext hE52
     replace hb2 := hb2.ext hE52
     replace hty_b2 := hty_b2.ext hE52
     replace ho23_0 := own_ext ho23_0 hE52
     replace ho42 := own_ext ho42 hE52
     replace hos42 := hos42.ext hE52
     replace hb43 := hb43.ext hE52
     replace hty_b43 := hty_b43.ext hE52
     replace hop := own_ext hop hE52
     replace hoi := hoi.ext hE52
     replace hb48 := hb48.ext hE52
     replace hty_b48 := hty_b48.ext hE52
     replace hszW := Nat.le_trans hszW hE52.size
     replace hsz := Nat.le_trans hsz hE52.size
     replace ho52 := own_mono ho52 (show w49.heap.size ≤ _ by omega)
     have hbl_b1 := hb1.lt
     have hbl_b2 := hb2.lt
     have hbl_b43 := hb43.lt
     have hbl_b48 := hb48.lt
     refine m_o3 rfl rfl (o_append_map (f := Value.bool) ([]) (((pl).getD k pv0).ab) Tryz.underlying54 el4 rfl rfl ho52 rfl ((RowsP.get (hpo.rplr) (i := k) (by omega)).below hB) (fun _ => rfl) (by (try simp only [List.length_append, List.length_cons, List.length_nil, List.length_take, List.length_drop, List.length_replicate]); omega) (by omega) rfl ?_)
     intro a53 c53 w53 hz53 ho53 hG53
     refine ⟨⟨(fun h => h.step hG53 (own_ty_ne ho52 hty_b43 (by decide))), (fun h => h.step hG53 (own_ty_ne ho52 hty_b48 (by decide)))⟩, ?_⟩
     replace hB := below_own hB hG53 ho52 (by omega) hsz
     replace hsz := Nat.le_trans hsz hG53.size
     replace hb1 := hb1.step hG53 (own_ty_ne ho52 hty_b1 (by decide))
     replace hb2 := hb2.step hG53 (own_ty_ne ho52 hty_b2 (by decide))
     replace ho23_0 := own_kept ho23_0 ho52 (by decide) hG53
     replace ho42 := own_kept ho42 ho52 (by decide) hG53
     replace hos42 := hos42.kept ho52 (by decide) hG53
     replace hb43 := hb43.step hG53 (own_ty_ne ho52 hty_b43 (by decide))
     replace hop := own_kept hop ho52 (by decide) hG53
     replace hoi := OwnsB.apart hoi hlt_hoi ho52 hG53
     replace hb48 := hb48.step hG53 (own_ty_ne ho52 hty_b48 (by decide))
     replace hszW := Nat.le_trans hszW hG53.size
     replace hty_b1 := TyAt.own hty_b1 ho52 hG53 (by decide)
     replace hty_b2 := TyAt.own hty_b2 ho52 hG53 (by decide)
     replace hty_b43 := TyAt.own hty_b43 ho52 hG53 (by decide)
     replace hty_b48 := TyAt.own hty_b48 ho52 hG53 (by decide)
     refine m_q3 rfl rfl (fun w' hC' => q_build (v := .agg ⟨[.slice a53 (([] ++ (((pl).getD k pv0).ab)).length) c53, vint (((pl).getD k pv0).r), vint (((pl).getD k pv0).m)]⟩) (fun w => by kernel_rfl) rfl) ?_
     have hbl_b1 := hb1.lt
     have hbl_b2 := hb2.lt
     have hbl_b43 := hb43.lt
     have hbl_b48 := hb48.lt
     refine m_o3 rfl rfl (o_buildSlice (el := 76) (cs := [.slice a53 (([] ++ (((pl).getD k pv0).ab)).length) c53, vint (((pl).getD k pv0).r), vint (((pl).getD k pv0).m)]) Tryz.underlying62 el76 (by decide) (by kernel_rfl) rfl (by decide) rfl ?_)
     intro b54 w54 hzl54 hzr54 _ hb54 hE54 ho54
     refine ⟨⟨(fun h => h.ext hE54), (fun h => h.ext hE54)⟩, ?_⟩
     have hne_b1_b54 : b1 ≠ b54 := by have := hb1.lt; omega
     have hne_b2_b54 : b2 ≠ b54 := by have := hb2.lt; omega
     have hne_b43_b54 : b43 ≠ b54 := by have := hb43.lt; omega
     have hne_b48_b54 : b48 ≠ b54 := by have := hb48.lt; omega
     have hbs_b54 : w.heap.size ≤ b54 := Nat.le_trans hsz hzl54
     have hWp_b54 := hszW
     have hbW_b54 := Nat.le_trans hszW hzl54
     replace hB := below_ext hB hE54 hsz
     replace hb1 := hb1.ext hE54
     replace hty_b1 := hty_b1.ext hE54
     replace hb2 := hb2.ext hE54
     replace hty_b2 := hty_b2.ext hE54
     replace ho23_0 := own_ext ho23_0 hE54
     replace ho42 := own_ext ho42 hE54
     replace hos42 := hos42.ext hE54
     replace hb43 := hb43.ext hE54
     replace hty_b43 := hty_b43.ext hE54
     replace hop := own_ext hop hE54
     replace hoi := hoi.ext hE54
     replace hb48 := hb48.ext hE54
     replace hty_b48 := hty_b48.ext hE54
     replace hszW := Nat.le_trans hszW hE54.size
     replace ho53 := own_ext ho53 hE54
     replace hsz := Nat.le_trans hsz hE54.size
     replace ho54 := own_mono ho54 (show w49.heap.size ≤ _ by omega)
     have hbl_b1 := hb1.lt
     have hbl_b2 := hb2.lt
     have hbl_b43 := hb43.lt
     have hbl_b48 := hb48.lt
     refine m_o3 rfl rfl (o_append_wide PV.one (M) (([⟨a53, c53, [] ++ (((pl).getD k pv0).ab), ((pl).getD k pv0).r, ((pl).getD k pv0).m⟩] : List PV)) Tryz.underlying62 el76 rfl rfl hop rfl (Row.of_owns ho54) (by (try simp only [List.length_append, List.length_cons, List.length_nil, List.length_take, List.length_drop, List.length_replicate]); omega) (by omega) rfl ?_)
     intro a56 c56 w56 hz56 ho56 hG56
     refine ⟨⟨(fun h => h.step hG56 (own_ty_ne hop hty_b43 (by decide))), (fun h => h.step hG56 (own_ty_ne hop hty_b48 (by decide)))⟩, ?_⟩
     replace hB := below_own hB hG56 hop (by omega) hsz
     replace hsz := Nat.le_trans hsz hG56.size
     replace hb1 := hb1.step hG56 (own_ty_ne hop hty_b1 (by decide))
     replace hb2 := hb2.step hG56 (own_ty_ne hop hty_b2 (by decide))
     replace ho23_0 := own_kept ho23_0 hop (by decide) hG56
     replace ho42 := own_kept ho42 hop (by decide) hG56
     replace hos42 := hos42.kept hop (by decide) hG56
     replace hb43 := hb43.step hG56 (own_ty_ne hop hty_b43 (by decide))
     replace hoi := hoi.kept hop (by decide) hG56
     replace hszW := Nat.le_trans hszW hG56.size
     replace ho53 := own_kept ho53 hop (by decide) hG56
     replace hty_b1 := TyAt.own hty_b1 hop hG56 (by decide)
     replace hty_b2 := TyAt.own hty_b2 hop hG56 (by decide)
     replace hty_b43 := TyAt.own hty_b43 hop hG56 (by decide)
     refine m_q3 rfl rfl (fun w' hC' => q_fieldAddr (o' := 1) rfl fld64_1 rfl) (m_last3 rfl rfl rfl (o_storet (vs := [.slice a56 ((M ++ ([⟨a53, c53, [] ++ (((pl).getD k pv0).ab), ((pl).getD k pv0).r, ((pl).getD k pv0).m⟩] : List PV)).length) c56]) (cs' := [.slice a23_0 ((nd).length) c23_0, .slice a56 ((M ++ ([⟨a53, c53, [] ++ (((pl).getD k pv0).ab), ((pl).getD k pv0).r, ((pl).getD k pv0).m⟩] : List PV)).length) c56, .slice oa42 ((L42).length) oc42]) Tryz.sizeOf62 rfl rfl rfl rfl hb43 (Nat.le_of_ble_eq_true rfl) rfl rfl ?_))
     intro w57 hz57 hb43 hT57 hG57
     replace hB := below_upd hB hG57 hsz (by omega)
     replace hsz : w.heap.size ≤ w57.heap.size := by rw [hz57]; exact hsz
     replace hb1 := hb1.upd hG57 (by omega)
     replace hty_b1 := hty_b1.upd hG57 (by omega)
     replace hb2 := hb2.upd hG57 (by omega)
     replace hty_b2 := hty_b2.upd hG57 (by omega)
     replace ho23_0 := own_ty_upd ho23_0 hty_b43 hG57 (by decide)
     replace ho42 := own_ty_upd ho42 hty_b43 hG57 (by decide)
     replace hos42 := OwnsI.tyupd hos42 hty_b43 hG57 (by decide)
     replace hoi := OwnsB.tyupd hoi hty_b43 hG57 (by decide)
     replace hszW := Nat.le_trans hszW hG57.size
     replace ho53 := own_ty_upd ho53 hty_b43 hG57 (by decide)
     replace ho56 := own_ty_upd ho56 hty_b43 hG57 (by decide)
     replace hty_b43 := hT57 _ hty_b43
     refine m_nil3 (r_forget [(1, .pointer _), (2, .pointer _), (3, .pointer _), (4, .int _ _)] ⟨rfl, rfl, rfl, rfl, trivial⟩ (fun e58 => (r_inBlock (r_region' (l_q (qmi rfl rfl) (l_q (q_add rfl rfl (by omega) rfl) (l_q (qai rfl rfl) (l_nil ?_))))))))
     exact ih45 (k + 1, a56, c56, M ++ ([⟨a53, c53, [] ++ (((pl).getD k pv0).ab), ((pl).getD k pv0).r, ((pl).getD k pv0).m⟩] : List PV)) _ _ ⟨⟨rfl, rfl, rfl, (vint_eq (by omega)), trivial⟩, (by omega), (pn_snoc hkp hM), (by rw [List.length_append, hMl]; rfl), hb43, ho56, (OwnsB.snoc hoi (own_mono ho53 (by omega))), hb1, hty_b1, hb2, hty_b2, ho23_0, ho42, hos42, hty_b43, hsz, hB⟩ (by first | omega | (dsimp only; omega))
    ·
     replace hc46 := dlt hc46
     refine r_exit rfl (r_seq (r_region' (l_q (q_load_agg (n := 3) Tryz.isAgg64 Tryz.sizeOf64 rfl ((hb43.cells' (cs' := [_, _, _]) 0 3 rfl)) rfl rfl) (l_o (o_storet (vs := [.slice a23_0 ((nd).length) c23_0, .slice oa M.length oc, .slice oa42 ((L42).length) oc42]) (cs' := [.slice a23_0 ((nd).length) c23_0, .slice oa M.length oc, .slice oa42 ((L42).length) oc42]) Tryz.sizeOf64 rfl rfl rfl rfl hb2 (Nat.le_of_ble_eq_true rfl) rfl rfl ?_)))))
     intro w59 hz59 hb2 hT59 hG59
     replace hB := below_upd hB hG59 hsz (by omega)
     replace hsz : w.heap.size ≤ w59.heap.size := by rw [hz59]; exact hsz
     replace ho23_0 := own_ty_upd ho23_0 hty_b2 hG59 (by decide)
     replace ho42 := own_ty_upd ho42 hty_b2 hG59 (by decide)
     replace hos42 := OwnsI.tyupd hos42 hty_b2 hG59 (by decide)
     replace hop := own_ty_upd hop hty_b2 hG59 (by decide)
     replace hoi := OwnsB.tyupd hoi hty_b2 hG59 (by decide)
     refine l_nil (r_ret_ (vs := [.agg _]) rfl Tryz.func17 rfl (.nil _) ⟨⟨_, _, rfl, run_loadVarA Tryz.isAgg64 Tryz.sizeOf64 (hb2.cells' (cs' := [_, _, _]) 0 3 rfl) rfl⟩, trivial⟩ ?_)
     exact ⟨a23_0, c23_0, oa, oc, M, oa42, oc42, L42, rfl, ⟨Row.of_owns ho23_0, Row.of_owns hop, hoi.rows, Row.of_owns ho42, hos42.rows⟩, (by rw [hM, List.take_of_length_le (by omega)]), hm42, Ext.of_below hB⟩
end Go.Proofs.YtbikicakdkbcgabGreat
