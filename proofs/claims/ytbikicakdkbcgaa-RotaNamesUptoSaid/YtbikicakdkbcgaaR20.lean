/- Contracts. -/
import Derived.Test.YtbikicakdkbcgaaR16
import Derived.Test.YtbikicakdkbcgaaGvTy3
set_option linter.unusedVariables false
set_option linter.unusedSimpArgs false
namespace Go.Proofs.Ytbikicakdkbcgaa
open Go Go.RowKit Go.Gv Go.Fl

/-- a post's lists are not too long -/
def PoBig (nd : List Int) (pl : List PV) (L : List SV) : Prop := nd.length ≤ 2097152 ∧ pl.length ≤ 2097152 ∧ L.length ≤ 2097152 ∧ (∀ s ∈ L, s.xs.length ≤ 2097152) ∧ ∀ x ∈ pl, x.ab.length ≤ 2097152
theorem post_big {nd : List Int} {pl pl' : List PV} {L L' : List SV} (h : pl'.map PV.pn = pl.map PV.pn) (hL : L'.map (·.xs) = L.map (·.xs)) (hb : PoBig nd pl L) : PoBig nd pl' L' := by
  refine ⟨hb.1, by rw [pn_len h]; exact hb.2.1, by have := congrArg List.length hL; rw [List.length_map, List.length_map] at this; rw [this]; exact hb.2.2.1, fun s hs => ?_, fun x hx => ?_⟩
  · have h1 : s.xs ∈ L.map (·.xs) := by rw [← hL]; exact List.mem_map.2 ⟨s, hs, rfl⟩
    obtain ⟨t, ht, he⟩ := List.mem_map.1 h1
    rw [← he]; exact hb.2.2.2.1 t ht
  · have h1 : x.pn ∈ pl.map PV.pn := by rw [← h]; exact List.mem_map.2 ⟨x, hx, rfl⟩
    obtain ⟨y, hy, he⟩ := List.mem_map.1 h1
    have h2 : x.ab = y.ab := (congrArg Pn.ab he).symm
    rw [h2]; exact hb.2.2.2.2 y hy
def OwnsB (w : World) (B el : Nat) (l : List PV) : Prop := ∀ p ∈ l, w.ownsRow B el 1 (.slice p.a p.ab.length p.c) p.ab.length (p.ab.map Value.bool)
theorem OwnsB.ext {w w' : World} {B el : Nat} {l : List PV} (h : OwnsB w B el l) (hg : Ext w w') : OwnsB w' B el l := fun s hs => own_ext (h s hs) hg
theorem OwnsB.rows {w : World} {B el : Nat} {l : List PV} (h : OwnsB w B el l) : RowsP w l := fun s hs => Row.of_owns (h s hs)
theorem OwnsB.nil (w : World) (B el : Nat) : OwnsB w B el [] := fun _ h => by simp at h
theorem OwnsB.snoc {w : World} {B el : Nat} {l : List PV} {p : PV} (h : OwnsB w B el l) (hs : w.ownsRow B el 1 (.slice p.a p.ab.length p.c) p.ab.length (p.ab.map Value.bool)) : OwnsB w B el (l ++ [p]) := fun x hx => by
  rcases List.mem_append.1 hx with h1 | h1
  · exact h x h1
  · rw [List.mem_singleton.1 h1]; exact hs
theorem OwnsB.kept {w w' : World} {B el base' e' size' n' : Nat} {l : List PV} {v' : Value} {xs' : List Value} (h : OwnsB w B el l) (h' : w.ownsRow base' e' size' v' n' xs') (hne : el ≠ e') (hG : w.grownBy w' v'.ownBlock) : OwnsB w' B el l := fun s hs => own_kept (h s hs) h' hne hG
theorem OwnsB.tyupd {w w' : World} {B el b T : Nat} {l : List PV} (h : OwnsB w B el l) (ht : TyAt w b T) (hG : w.grownBy w' (some b)) (hne : el ≠ T) : OwnsB w' B el l := fun s hs => own_ty_upd (h s hs) ht hG hne
theorem OwnsB.apart {w w' : World} {b el B e2 size2 n2 : Nat} {l : List PV} {v2 : Value} {xs2 : List Value} (h : OwnsB w b el l) (hlt : ∀ p ∈ l, ∀ g, (Value.slice p.a p.ab.length p.c).ownBlock = some g → g < B) (ho : w.ownsRow B e2 size2 v2 n2 xs2) (hG : w.grownBy w' v2.ownBlock) : OwnsB w' b el l := fun s hs => own_apart (h s hs) (hlt s hs) ho hG
theorem OwnsB.under {w : World} {b el : Nat} {l : List PV} (h : OwnsB w b el l) : ∀ p ∈ l, ∀ g, (Value.slice p.a p.ab.length p.c).ownBlock = some g → g < w.heap.size := fun s hs g hg => ((h s hs).lt g hg).2
theorem lsame10_ret (ra : Option Addr) (rc : Nat) (R : List SV) (qa : Option Addr) (qc : Nat) (Q : List SV) (w : World) (hR : Row w ra R.length rc 1 (R.map SV.enc)) (hRr : RowsI w R) (hRl : R.length ≤ 2097152) (hRx : ∀ s ∈ R, s.xs.length ≤ 2097152) (hQ : Row w qa Q.length qc 1 (Q.map SV.enc)) (hQr : RowsI w Q) (hQl : Q.length ≤ 2097152) (hQx : ∀ s ∈ Q, s.xs.length ≤ 2097152) : Ret Try.prog 9 [.slice ra R.length rc, .slice qa Q.length qc] w (fun v w' => v = .bool (decide ((R.map (·.xs)) = (Q.map (·.xs)))) ∧ Ext w w') := by
 have hB := Below.refl w.heap.size w
 have hsz : w.heap.size ≤ w.heap.size := Nat.le_refl _
 refine ret_of_runs (args := [_, _]) Try.func9 rfl (Nat.le_of_ble_eq_true rfl) (by kernel_rfl) (r_seq (r_region' (l_q (qab rfl rfl) (l_nil (r_seq (r_seq (r_region' (l_q (qms rfl rfl) (l_q (q_len rfl Try.underlying22 rfl rfl) (l_q (qms rfl rfl) (l_q (q_len rfl Try.underlying22 rfl rfl) (l_q (q_neq rfl rfl rfl) (l_nil (r_cond rfl (fun hc1 => ?_) (fun hc1 => ?_)))))))))))))))
 ·
  replace hc1 := df (nt hc1)
  have g10 := hc1
  refine r_seq (r_region' (l_q (qab rfl rfl) (l_nil (r_ret_ (vs := [.bool _]) rfl Try.func9 rfl (.nil _) ⟨rfl, trivial⟩ ?_))))
  exact ⟨vbool_eq (by symm; rw [decide_eq_false_iff_not]; intro h; have := congrArg List.length h; rw [List.length_map, List.length_map] at this; omega), Ext.of_below hB⟩
 ·
  replace hc1 := dt (nf hc1)
  have g10 := hc1
  refine r_skip (r_seq (r_seq (r_region' (l_q (qai rfl rfl) (l_nil (r_block (r_rounds (α := Nat) (fun k e wl => Knows e [(0, .slice ra R.length rc), (1, .slice qa Q.length qc), (5, vint (k : Int))] ∧ (k ≤ R.length) ∧ (R.length = Q.length) ∧ (∀ j, j < k → (R.getD j sv0).xs = (Q.getD j sv0).xs) ∧ (w.heap.size ≤ wl.heap.size) ∧ (Below w.heap.size w wl)) (fun k => R.length - k) 0 ?_ ?_)))))))
  ·
   exact ⟨⟨rfl, rfl, rfl, trivial⟩, (Nat.zero_le _), (by omega), (fun i hi => absurd hi (Nat.not_lt_zero _)), hsz, hB⟩
  ·
   rintro k el2 wl2 ⟨hkn, hkk, hlen, hq, hsz, hB⟩ ih2
   obtain ⟨e2, rfl⟩ := knows_env hkn
   refine r_seq (r_seq (r_region' (l_q (qmi rfl rfl) (l_q (qms rfl rfl) (l_q (q_len rfl Try.underlying22 rfl rfl) (l_q (q_lss rfl rfl rfl) (l_nil (r_cond rfl (fun hc3 => ?_) (fun hc3 => ?_)))))))))
   ·
    replace hc3 := dt hc3
    have hkR : k < R.length := by omega
    have hel := hRx _ (getD_lt (d := sv0) hkR)
    have hem := hQx _ (getD_lt (d := sv0) (show k < Q.length by omega))
    refine r_skip (r_seq (r_block (r_seq (r_draw ext_refl' ext_trans' [0, 1, 2, 3, 4, 5, 6, 7, 8, 9] [8] 20 (by kernel_rfl) (by kernel_rfl) ?_))))
    intro w4 _ hE4
    replace hB := below_ext hB hE4 hsz
    replace hsz := Nat.le_trans hsz hE4.size
    refine m_q rfl rfl (fun w' hC' => qms rfl rfl) (m_q rfl rfl (fun w' hC' => qmi rfl rfl) ?_)
    obtain ⟨b5, o5, ha5, hh5⟩ := (hR.below hB).at1 k ((R).getD k sv0) (getD_some (by omega))
    refine m_q rfl rfl (fun w' hC' => q_indexAddr1 Try.underlying22 Try.sizeOf26 rfl ha5 rfl (by omega) rfl) (m_q rfl rfl (fun w' hC' => q_load Try.isAgg26 rfl ((hh5.ext hC')) rfl) (m_q rfl rfl (fun w' hC' => qms rfl rfl) (m_q rfl rfl (fun w' hC' => qmi rfl rfl) ?_)))
    obtain ⟨b6, o6, ha6, hh6⟩ := (hQ.below hB).at1 k ((Q).getD k sv0) (getD_some (by omega))
    refine m_q rfl rfl (fun w' hC' => q_indexAddr1 Try.underlying22 Try.sizeOf26 rfl ha6 rfl (by omega) rfl) (m_q rfl rfl (fun w' hC' => q_load Try.isAgg26 rfl ((hh6.ext hC')) rfl) (m_o rfl rfl (o_call Try.call29 rfl (same10_ret _ _ (((R).getD k sv0).xs) _ _ (((Q).getD k sv0).xs) _ ((RowsI.get (hRr) (i := k) (by omega)).below hB) (by omega) ((RowsI.get (hQr) (i := k) (by omega)).below hB) (by omega)) rfl ?_)))
    rintro _ w7 ⟨rfl, hE7⟩
    refine ⟨hE7, ?_⟩
    replace hB := below_ext hB hE7 hsz
    replace hsz := Nat.le_trans hsz hE7.size
    refine m_q rfl rfl (fun w' hC' => q_not rfl rfl) (m_nil (r_forget [(0, .slice _ _ _), (1, .slice _ _ _), (5, .int _ _), (26, .bool _)] ⟨rfl, rfl, rfl, rfl, trivial⟩ (fun e8 => (r_cond rfl (fun hc9 => ?_) (fun hc9 => ?_)))))
    ·
     replace hc9 := df (nt hc9)
     have g26 := hc9
     refine r_seq (r_region' (l_q (qab rfl rfl) (l_nil (r_ret_ (vs := [.bool _]) rfl Try.func9 rfl (.nil _) ⟨rfl, trivial⟩ ?_))))
     exact ⟨vbool_eq (by symm; rw [decide_eq_false_iff_not, sv_maps]; rintro ⟨_, h⟩; exact g26 (h k hkR)), Ext.of_below hB⟩
    ·
     replace hc9 := dt (nf hc9)
     have g26 := hc9
     refine r_skip (r_inBlock (r_region' (l_q (qmi rfl rfl) (l_q (q_add rfl rfl (by omega) rfl) (l_q (qai rfl rfl) (l_nil ?_))))))
     exact ih2 (k + 1) _ _ ⟨⟨rfl, rfl, by first | rfl | exact vint_eq (by omega), trivial⟩, (by omega), hlen, (fun j hj => by rcases Nat.lt_succ_iff_lt_or_eq.1 hj with h | h; exact hq j h; subst h; exact g26), hsz, hB⟩ (by first | omega | (dsimp only; omega))
   ·
    replace hc3 := dlt hc3
    refine r_exit rfl (r_seq (r_region' (l_q (qab rfl rfl) (l_nil (r_ret_ (vs := [.bool _]) rfl Try.func9 rfl (.nil _) ⟨rfl, trivial⟩ ?_)))))
    exact ⟨vbool_eq (by symm; rw [decide_eq_true_eq, sv_maps]; exact ⟨hlen, fun j hj => hq j (by omega)⟩), Ext.of_below hB⟩
end Go.Proofs.Ytbikicakdkbcgaa
