/- Contracts. -/
import Derived.Test.YtbikicakdkbcgaaR8
set_option linter.unusedVariables false
set_option linter.unusedSimpArgs false
namespace Go.Proofs.Ytbikicakdkbcgaa
open Go Go.RowKit Go.Gv Go.Fl

abbrev SX (m b2 : Nat) : Nat → Prop := fun k => k = m ∨ k = b2
/-- what Best has laid when it calls extend: the post, the work, the boxes of what extend captures -/
structure BX (W : World) (na : Option Addr) (nc : Nat) (nd : List Int) (pa : Option Addr) (pc : Nat) (pl : List PV) (ca : Option Addr) (cc : Nat) (L : List SV) (wb : Nat) (oa : Option Addr) (oc : Nat) (S : List SV) (m pb wq rb fb : Nat) : Prop where
  wk : WkH W na nc nd pa pc pl ca cc L wb oa oc S m
  mp : Uncell W m
  mlt : m < W.heap.size
  cr : ∃ x y z, Blk W rb [.slice x y z]
  cp : Blk W pb [.slice na nd.length nc, .slice pa pl.length pc, .slice ca L.length cc]
  cw : Blk W wq [ptr wb 0]
  cf : Blk W fb [.func (.func 19) ⟨[]⟩ ⟨[ptr pb 0, ptr wq 0, ptr rb 0, ptr fb 0]⟩]
  two : 2 ≤ S.length
  nb : L.map SV.enc ≠ [] → ∀ x, ca = some x → x.block ≠ rb
section
variable {W wc : World} {na : Option Addr} {nc : Nat} {nd : List Int} {pa : Option Addr} {pc : Nat} {pl : List PV} {ca : Option Addr} {cc : Nat} {L : List SV} {wb : Nat} {oa : Option Addr} {oc : Nat} {S : List SV} {m pb wq rb fb : Nat}
theorem not_sx {k : Nat} (h1 : k ≠ m) (h2 : k ≠ rb) : ¬ SX m rb k := fun h => h.elim h1 h2
theorem BX.wkc (h : BX W na nc nd pa pc pl ca cc L wb oa oc S m pb wq rb fb) (hF : FrS (SX m rb) W wc) : WkH wc na nc nd pa pc pl ca cc L wb oa oc S m := by
  obtain ⟨x, y, z, hr⟩ := h.cr
  have ints : ∀ l : List Int, ∀ u ∈ l.map vint, u ≠ .slice x y z := fun l u hu => by
    obtain ⟨i, _, rfl⟩ := List.mem_map.1 hu
    intro h; cases h
  have rows : ∀ l : List SV, RowsI W l → RowsI wc l := fun l hl s hs => (hl s hs).frS hF (fun h0 a ha => not_sx ((hl s hs).ne_unc h.mp h0 a ha) ((hl s hs).ne_one hr (.inr (ints _)) h0 a ha))
  have hp := h.wk.po
  refine ⟨⟨hp.rnd.frS hF (fun h0 a ha => not_sx (hp.rnd.ne_unc h.mp h0 a ha) (hp.rnd.ne_one hr (.inr (ints _)) h0 a ha)), ?_, fun s hs => ?_, hp.rC.frS hF (fun h0 a ha => not_sx (hp.rC.ne_unc h.mp h0 a ha) (h.nb h0 a ha)), rows _ hp.rCr⟩,
    h.wk.blk.frS hF (not_sx (h.wk.blk.ne_unc h.mp) (h.wk.blk.ne_len hr (fun h => by injection h with _ h; cases h))), h.wk.rS.frS hF (fun h0 a ha => not_sx (h.wk.rS.ne_unc h.mp h0 a ha) (h.wk.rS.ne_one hr (.inl (by rw [List.length_map]; exact h.two)) h0 a ha)), rows _ h.wk.rSr⟩
  · refine hp.rpl.frS hF (fun h0 a ha => not_sx (hp.rpl.ne_unc h.mp h0 a ha) (hp.rpl.ne_one hr (.inl ?_) h0 a ha))
    have h1 := hp.rpl.1
    have h2 : 0 < (pl.flatMap PV.enc).length := List.length_pos_iff.2 h0
    omega
  · refine (hp.rplr s hs).frS hF (fun h0 a ha => not_sx ((hp.rplr s hs).ne_unc h.mp h0 a ha) ((hp.rplr s hs).ne_one hr (.inr fun u hu => ?_) h0 a ha))
    obtain ⟨i, _, rfl⟩ := List.mem_map.1 hu
    intro h; cases h
theorem BX.cpc (h : BX W na nc nd pa pc pl ca cc L wb oa oc S m pb wq rb fb) (hF : FrS (SX m rb) W wc) : Blk wc pb [.slice na nd.length nc, .slice pa pl.length pc, .slice ca L.length cc] := by
  obtain ⟨x, y, z, hr⟩ := h.cr
  exact h.cp.frS hF (not_sx (h.cp.ne_unc h.mp) (h.cp.ne_len hr (fun h => by injection h with _ h; cases h)))
theorem BX.cwc (h : BX W na nc nd pa pc pl ca cc L wb oa oc S m pb wq rb fb) (hF : FrS (SX m rb) W wc) : Blk wc wq [ptr wb 0] := by
  obtain ⟨x, y, z, hr⟩ := h.cr
  exact h.cw.frS hF (not_sx (h.cw.ne_unc h.mp) (h.cw.ne_len hr (fun h => by injection h with h _; cases h)))
theorem BX.cfc (h : BX W na nc nd pa pc pl ca cc L wb oa oc S m pb wq rb fb) (hF : FrS (SX m rb) W wc) : Blk wc fb [.func (.func 19) ⟨[]⟩ ⟨[ptr pb 0, ptr wq 0, ptr rb 0, ptr fb 0]⟩] := by
  obtain ⟨x, y, z, hr⟩ := h.cr
  exact h.cf.frS hF (not_sx (h.cf.ne_unc h.mp) (h.cf.ne_len hr (fun h => by injection h with h _; cases h)))
end
/-- the rota that extend adds -/
def exB (nd : List Int) (pl : List PV) (C LS : List (List Int)) (wt : Nat) (S0 on : List Int) : Bool := nxOK nd pl C wt S0 on && decide ((on.length : Int) + rfe nd pl C LS (wt + 1) (aftL pl wt S0 on).1 = rfe nd pl C LS wt S0)
def rextN (nd : List Int) (pl : List PV) (C LS : List (List Int)) : Nat → Nat → List Int → List (List Int)
  | 0, _, _ => []
  | n + 1, wt, S0 => match LS.find? (exB nd pl C LS wt S0) with
    | some on => on :: rextN nd pl C LS n (wt + 1) (aftL pl wt S0 on).1
    | none => []
def rext (nd : List Int) (pl : List PV) (C LS : List (List Int)) (wt : Nat) (S0 : List Int) : List (List Int) := rextN nd pl C LS (nd.length - wt) wt S0
section
variable {nd : List Int} {pl : List PV} {C LS : List (List Int)} {S : List SV} {wt k : Nat} {S0 : List Int}
theorem rext_end (h : nd.length ≤ wt) : rext nd pl C LS wt S0 = [] := by unfold rext; rw [Nat.sub_eq_zero_of_le h]; rfl
theorem rext_succ (h : wt < nd.length) : rext nd pl C LS wt S0 = match LS.find? (exB nd pl C LS wt S0) with
    | some on => on :: rext nd pl C LS (wt + 1) (aftL pl wt S0 on).1
    | none => [] := by
  unfold rext
  obtain ⟨n, hn⟩ : ∃ n, nd.length - wt = n + 1 := ⟨nd.length - wt - 1, by omega⟩
  rw [hn, rextN, show nd.length - (wt + 1) = n by omega]
theorem rext_found (h : wt < nd.length) (hk : k < S.length) (hx : exB nd pl C (S.map (·.xs)) wt S0 (S.getD k sv0).xs = true) (hno : ∀ j, j < k → exB nd pl C (S.map (·.xs)) wt S0 (S.getD j sv0).xs = false) :
    rext nd pl C (S.map (·.xs)) wt S0 = (S.getD k sv0).xs :: rext nd pl C (S.map (·.xs)) (wt + 1) (aftL pl wt S0 (S.getD k sv0).xs).1 := by
  rw [rext_succ h, find_at hk hx hno]
theorem rext_none (h : wt < nd.length) (hno : ∀ j, j < S.length → exB nd pl C (S.map (·.xs)) wt S0 (S.getD j sv0).xs = false) : rext nd pl C (S.map (·.xs)) wt S0 = [] := by
  have h2 : (S.map (·.xs)).find? (exB nd pl C (S.map (·.xs)) wt S0) = none := List.find?_eq_none.2 (fun l hl => by
    obtain ⟨s, hs, rfl⟩ := List.mem_map.1 hl
    obtain ⟨j, hj, rfl⟩ := List.mem_iff_getElem.1 hs
    have := hno j hj
    rw [List.getD_eq_getElem?_getD, List.getElem?_eq_getElem hj] at this
    simp only [Option.getD_some] at this
    rw [this]; decide)
  rw [rext_succ h, h2]
theorem exB_no {on : List Int} (h : nxOK nd pl C wt S0 on = false) : exB nd pl C LS wt S0 on = false := by unfold exB; rw [h]; rfl
theorem exB_ne {on : List Int} (h : ¬ (on.length : Int) + rfe nd pl C LS (wt + 1) (aftL pl wt S0 on).1 = rfe nd pl C LS wt S0) : exB nd pl C LS wt S0 on = false := by unfold exB; rw [decide_eq_false h, Bool.and_false]
theorem exB_yes {on : List Int} (h1 : nxOK nd pl C wt S0 on = true) (h : (on.length : Int) + rfe nd pl C LS (wt + 1) (aftL pl wt S0 on).1 = rfe nd pl C LS wt S0) : exB nd pl C LS wt S0 on = true := by unfold exB; rw [h1, decide_eq_true h]; rfl
end
/-- r, and what is known, when extend is done -/
structure ExR (W : World) (nd : List Int) (pl : List PV) (C LS : List (List Int)) (m rb : Nat) (T : List (List Int)) (wc : World) (oa : Option Addr) (oc : Nat) (R2 : List SV) : Prop where
  map : R2.map (·.xs) = T
  cell : Blk wc rb [.slice oa R2.length oc]
  out : wc.ownsRow W.heap.size 26 1 (.slice oa R2.length oc) R2.length (R2.map SV.enc)
  rows : OwnsI wc W.heap.size 3 R2
  mp : ∃ es ck, MapAt wc m es ck ∧ SMemo nd pl C LS es
def ExW (W : World) (nd : List Int) (pl : List PV) (C LS : List (List Int)) (m rb : Nat) (T : List (List Int)) (wc : World) : Prop := ∃ oa oc R2, ExR W nd pl C LS m rb T wc oa oc R2
theorem ExW.step {W : World} {nd : List Int} {pl : List PV} {C LS : List (List Int)} {m rb l : Nat} {T : List (List Int)} {wc w' : World} (h : ExW W nd pl C LS m rb T wc) (hg : wc.grownBy w' (some l)) (hl : Uncell wc l) (hm : m ≠ l) : ExW W nd pl C LS m rb T w' := by
  obtain ⟨oa, oc, R2, ⟨h1, h2, h3, h4, es, ck, h5, h6⟩⟩ := h
  exact ⟨oa, oc, R2, ⟨h1, h2.unc hl hg, own_unc h3 hl hg, h4.unc hl hg, es, ck, h5.keep (hg.block m h5.lt (fun he => hm (by injection he))), h6⟩⟩
/-- what extend turns: what is known, r, and where r lies -/
abbrev SW (m rb : Nat) (a : Option Addr) : Nat → Prop := fun k => k = m ∨ k = rb ∨ a.map (·.block) = some k
theorem two_heap {a : Option Addr} {c g c' l : Nat} {w w' : World} (hd : Two a c g c' w w') (hl : l < w.heap.size) (hne : a = some ⟨g, 0, none⟩ → l ≠ g) : w'.heap[l]? = w.heap[l]? := by
  rcases hd with ⟨h1, _, h3, _⟩ | ⟨h1, _⟩
  · exact h3.block l hl (fun he => hne h1 (by injection he))
  · exact h1.block l hl (by simp)
theorem two_ne {a : Option Addr} {c g c' l : Nat} {w w' : World} (hd : Two a c g c' w w') (hl : l < w.heap.size) (hne : a = some ⟨g, 0, none⟩ → l ≠ g) : l ≠ g := by
  rcases hd with ⟨h1, _⟩ | ⟨_, h1⟩
  · exact hne h1
  · omega
theorem frX_two {S : Nat → Prop} {a : Option Addr} {c g c' : Nat} {w0 w w' : World} (h : FrS S w0 w) (hd : Two a c g c' w w') (hg : a = some ⟨g, 0, none⟩ → w0.heap.size ≤ g ∨ S g) : FrS S w0 w' := by
  rcases hd with ⟨h1, _, h3, _⟩ | ⟨h1, _⟩
  · exact h.grown h3 (fun k hk hlt => by
      have h4 : g = k := by injection hk
      subst h4
      rcases hg h1 with h2 | h2
      · omega
      · exact h2)
  · exact h.ext h1
theorem frX_gm {m rb : Nat} {W w wc : World} (h : FrS (SX m rb) W w) (hg : w.grownBy wc (some m)) : FrS (SX m rb) W wc := h.grown hg (fun k hk _ => .inl (by injection hk with hk; exact hk.symm))
theorem frW_gm {m rb : Nat} {a : Option Addr} {w wc : World} (hg : w.grownBy wc (some m)) : FrS (SW m rb a) w wc := FrS.of_grown hg (fun k hk => .inl (by injection hk with hk; exact hk.symm))
/-- the frame of a call that follows an append -/
theorem frW_trans {m rb g c c' : Nat} {a : Option Addr} {w w1 w2 wa wb : World} (h : FrS (SW m rb a) w w1) (h2 : FrS (SW m rb (some ⟨g, 0, none⟩)) w1 w2) (hd : Two a c g c' wa wb) (hs : w.heap.size ≤ wa.heap.size) : FrS (SW m rb a) w w2 :=
  h.trans h2 (fun k hk hs2 => by
    rcases hs2 with h1 | h1 | h1
    · exact .inl h1
    · exact .inr (.inl h1)
    · have h3 : g = k := by injection h1
      subst h3
      rcases hd with ⟨h4, _⟩ | ⟨_, h4⟩
      · rw [h4]; exact .inr (.inr rfl)
      · omega)


theorem rext_step (na : Option Addr) (nc : Nat) (nd : List Int) (pa : Option Addr) (pc : Nat) (pl : List PV) (ca : Option Addr) (cc : Nat) (L : List SV) (wb : Nat) (oa : Option Addr) (oc : Nat) (S : List SV) (m : Nat) (pb wq rb fb : Nat) (W : World) (clock : Nat) (es : List MapEntry) (wt : Nat) (S0 : List Int) (ra : Option Addr) (rc : Nat) (R : List SV) (w : World) (hok : faultP (po nd pl L) = 0) (hSn : S.length ≤ 2097152) (hSon : ∀ s ∈ S, s.xs.length ≤ 8 ∧ ∀ i ∈ s.xs, 0 ≤ i ∧ i ≤ (pl.length : Int) - 1) (hX : BX W na nc nd pa pc pl ca cc L wb oa oc S m pb wq rb fb) (hwt : wt ≤ nd.length) (hS8 : S0.length = 8) (hSb : ∀ v ∈ S0, -1 ≤ v ∧ v ≤ 1000) (hF : FrS (SX m rb) W w) (hc : Blk w rb [.slice ra R.length rc]) (ho : w.ownsRow W.heap.size 26 1 (.slice ra R.length rc) R.length (R.map SV.enc)) (hos : OwnsI w W.heap.size 3 R) (hRl : R.length ≤ wt) (hM : MapAt w m es clock) (hMemo : SMemo nd pl (L.map (·.xs)) (S.map (·.xs)) es) (ih : ∀ (wt2 : Nat) (S2 : List Int) (w1 : World) (es1 : List MapEntry) (ck1 : Nat) (ra1 : Option Addr) (rc1 : Nat) (R1 : List SV), nd.length - wt2 < nd.length - wt → wt2 ≤ nd.length → S2.length = 8 → (∀ v ∈ S2, -1 ≤ v ∧ v ≤ 1000) → FrS (SX m rb) W w1 → Blk w1 rb [.slice ra1 R1.length rc1] → w1.ownsRow W.heap.size 26 1 (.slice ra1 R1.length rc1) R1.length (R1.map SV.enc) → OwnsI w1 W.heap.size 3 R1 → R1.length ≤ wt2 → MapAt w1 m es1 ck1 → SMemo nd pl (L.map (·.xs)) (S.map (·.xs)) es1 → Ret Try.prog 19 [.agg ⟨((wt2 : Int) :: S2).map vint⟩, vint (rfe nd pl (L.map (·.xs)) (S.map (·.xs)) wt2 S2), ptr pb 0, ptr wq 0, ptr rb 0, ptr fb 0] w1 (fun v w' => v = .tuple ⟨[]⟩ ∧ ExW W nd pl (L.map (·.xs)) (S.map (·.xs)) m rb (R1.map (·.xs) ++ rext nd pl (L.map (·.xs)) (S.map (·.xs)) wt2 S2) w' ∧ FrS (SW m rb ra1) w1 w')) : Ret Try.prog 19 [.agg ⟨((wt : Int) :: S0).map vint⟩, vint (rfe nd pl (L.map (·.xs)) (S.map (·.xs)) wt S0), ptr pb 0, ptr wq 0, ptr rb 0, ptr fb 0] w (fun v w' => v = .tuple ⟨[]⟩ ∧ ExW W nd pl (L.map (·.xs)) (S.map (·.xs)) m rb (R.map (·.xs) ++ rext nd pl (L.map (·.xs)) (S.map (·.xs)) wt S0) w' ∧ FrS (SW m rb ra) w w') := by
 obtain ⟨⟨hn1, hn5⟩, ⟨hp1, hp4⟩, hL4, hnn, hpp, hLL⟩ := po_ok hok
 have hk := hX.wkc hF
 have hpb := hX.cpc hF
 have hwq := hX.cwc hF
 have hfb1 := hX.cfc hF
 have hrbl : rb < W.heap.size := by obtain ⟨_, _, _, h⟩ := hX.cr; exact h.lt
 have hmrb : m ≠ rb := by obtain ⟨_, _, _, h⟩ := hX.cr; exact fun he => h.ne_unc hX.mp he.symm
 have hWw := hF.size
 have hmW := hX.mlt
 have hM0 := hM
 have hG0 := gm_refl m w
 have hmN := hM.lt
 have hwqm := hwq.ne_unc hM.unc
 have hwbm := hk.blk.ne_unc hM.unc
 have hfe0 := rfe_bnd nd pl (L.map (·.xs)) (S.map (·.xs)) wt S0
 have hsz : w.heap.size ≤ w.heap.size := Nat.le_refl _
 refine ret_of_runs (args := [_, _, _, _, _, _]) Try.func19 rfl (Nat.le_of_ble_eq_true rfl) (by kernel_rfl) (r_seq (r_region' (l_o (o_box rfl rfl rfl ?_))))
 intro b1 w1 hzl1 hzr1 _ hb1 hE1
 have hne_wb_b1 : wb ≠ b1 := by have := hk.blk.lt; omega
 have hne_pb_b1 : pb ≠ b1 := by have := hpb.lt; omega
 have hne_wq_b1 : wq ≠ b1 := by have := hwq.lt; omega
 have hne_rb_b1 : rb ≠ b1 := by have := hc.lt; omega
 have hne_fb_b1 : fb ≠ b1 := by have := hfb1.lt; omega
 have hbs_b1 : w.heap.size ≤ b1 := Nat.le_trans hsz hzl1
 replace hM := hM.keep (hE1.block m hM.lt (by simp))
 replace hG0 := grown_trans hG0 (gm_ext hE1)
 replace hsz := Nat.le_trans hsz hE1.size
 refine l_o (o_box rfl rfl rfl ?_)
 intro b2 w2 hzl2 hzr2 _ hb2 hE2
 have hne_wb_b2 : wb ≠ b2 := by have := hk.blk.lt; omega
 have hne_pb_b2 : pb ≠ b2 := by have := hpb.lt; omega
 have hne_wq_b2 : wq ≠ b2 := by have := hwq.lt; omega
 have hne_rb_b2 : rb ≠ b2 := by have := hc.lt; omega
 have hne_fb_b2 : fb ≠ b2 := by have := hfb1.lt; omega
 have hne_b1_b2 : b1 ≠ b2 := by have := hb1.lt; omega
 have hbs_b2 : w.heap.size ≤ b2 := Nat.le_trans hsz hzl2
 replace hM := hM.keep (hE2.block m hM.lt (by simp))
 replace hG0 := grown_trans hG0 (gm_ext hE2)
 replace hb1 := hb1.ext hE2
 replace hsz := Nat.le_trans hsz hE2.size
 refine l_nil (r_seq (r_seq (r_region' (l_q (q_fieldAddr (o' := 0) rfl fld61_0 rfl) (l_q (q_load Try.isAgg3 rfl ((hb1.has (o := 0) rfl)) rfl) (l_q (q_fieldAddr (o' := 0) rfl fld29_0 rfl) (l_q (q_load Try.isAgg26 rfl (((hpb.gm hM0 hG0).has (o := 0) rfl)) rfl) (l_q (q_len rfl Try.underlying26 rfl rfl) (l_q (q_eql rfl rfl rfl) (l_nil (r_cond rfl (fun hc3 => ?_) (fun hc3 => ?_))))))))))))
 ·
  replace hc3 := dt hc3
  refine r_ret_ (vs := []) rfl Try.func19 rfl (.nil _) trivial ?_
  exact ⟨rfl, ⟨ra, rc, R, ⟨by rw [rext_end (by omega), List.append_nil], hc.gm hM0 hG0, own_gm ho hM0 hG0, hos.unc hM0.unc hG0, _, _, hM, hMemo⟩⟩, frW_gm hG0⟩
 ·
  replace hc3 := df hc3
  have hwl : wt < nd.length := by omega
  refine r_skip (r_seq (r_region' (l_q (q_load Try.isAgg51 rfl (((hwq.gm hM0 hG0).has (o := 0) rfl)) rfl) (l_q (q_load_agg (n := 9) Try.isAgg61 Try.sizeOf61 rfl ((hb1.cells0)) (by simp only [List.length_map, List.length_cons, (show S0.length = 8 from hS8)]) rfl) (l_o (o_call Try.call20 rfl (next10_ret wb wt S0 _ hS8) rfl ?_))))))
  rintro _ w4 ⟨bx4, by4, rfl, hbx4, hby4, hnexy4, hx4, hy4, hE4⟩
  have hne_b1_bx4 : b1 ≠ bx4 := by have := hb1.lt; omega
  have hne_b2_bx4 : b2 ≠ bx4 := by have := hb2.lt; omega
  have hne_b1_by4 : b1 ≠ by4 := by have := hb1.lt; omega
  have hne_b2_by4 : b2 ≠ by4 := by have := hb2.lt; omega
  have hbs_bx4 : w.heap.size ≤ bx4 := Nat.le_trans hsz hbx4
  have hbs_by4 : w.heap.size ≤ by4 := Nat.le_trans hsz hby4
  replace hM := hM.keep (hE4.block m hM.lt (by simp))
  replace hG0 := grown_trans hG0 (gm_ext hE4)
  replace hb1 := hb1.ext hE4
  replace hb2 := hb2.ext hE4
  replace hsz := Nat.le_trans hsz hE4.size
  refine l_nil (r_forget [(3, .pointer _), (4, .pointer _), (5, .pointer _), (7, .pointer _), (18, .func _ _ _)] ⟨rfl, rfl, rfl, rfl, rfl, trivial⟩ (fun e5 => (r_block (r_rangeFunc' (fst := []) (cap := [_, _]) rfl rfl Try.call44 ?_))))
  intro l db wl Lp hLp hLk hEl hll hldb hlne hdbN hlN hdb hlp
  have hltm := hM.lt
  have hlt_b1 := hb1.lt
  have hlt_b2 := hb2.lt
  have hlt_bx4 := hx4.lt
  have hlt_by4 := hy4.lt
  have hszl := hEl.size
  replace hM := hM.keep (hEl.block m hM.lt (by simp))
  replace hG0 := grown_trans hG0 (gm_ext hEl)
  replace hb1 := hb1.ext hEl
  replace hb2 := hb2.ext hEl
  replace hx4 := hx4.ext hEl
  replace hy4 := hy4.ext hEl
  replace hsz := Nat.le_trans hsz hEl.size
  have hbs_l : w.heap.size ≤ l := by omega
  have hbs_db : w.heap.size ≤ db := by omega
  have hJ0 : (fun (k : Nat) wq => (∃ es ck, MapAt wq m es ck ∧ SMemo nd pl (L.map (·.xs)) (S.map (·.xs)) es) ∧ (w.grownBy wq (some m)) ∧ (Blk wq b1 (((wt : Int) :: S0).map vint)) ∧ (Blk wq b2 [vint (rfe nd pl (L.map (·.xs)) (S.map (·.xs)) wt S0)]) ∧ (Blk wq bx4 [ptr wb 0]) ∧ (Blk wq by4 (((wt : Int) :: S0).map vint)) ∧ (Lp wq .ready none) ∧ (wq.heap[db]? = some (.deferred (some []))) ∧ (∀ j, j < k → exB nd pl (L.map (·.xs)) (S.map (·.xs)) wt S0 (S.getD j sv0).xs = false)) 0 wl := ⟨⟨_, _, hM, hMemo⟩, hG0, hb1, hb2, hx4, hy4, hlp, hdb, (fun j hj => absurd hj (Nat.not_lt_zero _))⟩
  have hJs : ∀ k w1 w2, (fun (k : Nat) wq => (∃ es ck, MapAt wq m es ck ∧ SMemo nd pl (L.map (·.xs)) (S.map (·.xs)) es) ∧ (w.grownBy wq (some m)) ∧ (Blk wq b1 (((wt : Int) :: S0).map vint)) ∧ (Blk wq b2 [vint (rfe nd pl (L.map (·.xs)) (S.map (·.xs)) wt S0)]) ∧ (Blk wq bx4 [ptr wb 0]) ∧ (Blk wq by4 (((wt : Int) :: S0).map vint)) ∧ (Lp wq .ready none) ∧ (wq.heap[db]? = some (.deferred (some []))) ∧ (∀ j, j < k → exB nd pl (L.map (·.xs)) (S.map (·.xs)) wt S0 (S.getD j sv0).xs = false)) k w1 → Below wl.heap.size w1 w2 → (fun (k : Nat) wq => (∃ es ck, MapAt wq m es ck ∧ SMemo nd pl (L.map (·.xs)) (S.map (·.xs)) es) ∧ (w.grownBy wq (some m)) ∧ (Blk wq b1 (((wt : Int) :: S0).map vint)) ∧ (Blk wq b2 [vint (rfe nd pl (L.map (·.xs)) (S.map (·.xs)) wt S0)]) ∧ (Blk wq bx4 [ptr wb 0]) ∧ (Blk wq by4 (((wt : Int) :: S0).map vint)) ∧ (Lp wq .ready none) ∧ (wq.heap[db]? = some (.deferred (some []))) ∧ (∀ j, j < k → exB nd pl (L.map (·.xs)) (S.map (·.xs)) wt S0 (S.getD j sv0).xs = false)) k w2 := fun k w1 w2 hJ hB2 => by
    obtain ⟨q0, q1, q2, q3, q4, q5, q6, q7, q8⟩ := hJ
    exact ⟨(let ⟨es, ck, h1, h2⟩ := q0; ⟨es, ck, h1.keep (hB2.block m (by omega)), h2⟩), (gm_below q1 hB2 (by omega)), (q2.keep (hB2.block _ (by omega))), (q3.keep (hB2.block _ (by omega))), (q4.keep (hB2.block _ (by omega))), (q5.keep (hB2.block _ (by omega))), (hLk _ _ _ _ q6 (hB2.block l hlN)), ((hB2.block db hdbN).trans q7), q8⟩
  refine (next1w_ret l bx4 by4 na nc nd pa pc pl ca cc L wb oa oc S m wt S0 (fun (k : Nat) wq => (∃ es ck, MapAt wq m es ck ∧ SMemo nd pl (L.map (·.xs)) (S.map (·.xs)) es) ∧ (w.grownBy wq (some m)) ∧ (Blk wq b1 (((wt : Int) :: S0).map vint)) ∧ (Blk wq b2 [vint (rfe nd pl (L.map (·.xs)) (S.map (·.xs)) wt S0)]) ∧ (Blk wq bx4 [ptr wb 0]) ∧ (Blk wq by4 (((wt : Int) :: S0).map vint)) ∧ (Lp wq .ready none) ∧ (wq.heap[db]? = some (.deferred (some []))) ∧ (∀ j, j < k → exB nd pl (L.map (·.xs)) (S.map (·.xs)) wt S0 (S.getD j sv0).xs = false)) (fun wq => (Lp wq .done (some (.ret))) ∧ (wq.heap[db]? = some (.deferred (some []))) ∧ (ExW W nd pl (L.map (·.xs)) (S.map (·.xs)) m rb (R.map (·.xs) ++ rext nd pl (L.map (·.xs)) (S.map (·.xs)) wt S0) wq) ∧ (FrS (SW m rb ra) w wq)) wl hok hS8 hSb hwl hSn hSon hJ0 (fun k w1 hJ => by
      obtain ⟨hM, hG0, hb1, hb2, hx4, hy4, hlp, hdb, hno⟩ := hJ
      exact ⟨hx4, hy4, hk.gm hM0 hG0⟩) hJs (fun k w1 hkS hJ hnn => by
      obtain ⟨hM, hG0, hb1, hb2, hx4, hy4, hlp, hdb, hno⟩ := hJ
      exact ⟨hM, hG0, hb1, hb2, hx4, hy4, hlp, hdb, (fun j hj => by rcases Nat.lt_succ_iff_lt_or_eq.1 hj with h | h; exact hno j h; subst h; exact exB_no hnn)⟩) ?_).mono ?_
  · intro k w1 hkS hJ hN hnx
    obtain ⟨hM, hG0, hb1, hb2, hx4, hy4, hlp, hdb, hno⟩ := hJ
    refine yieldAt_of ((hLp _ _ _).1 hlp) rfl (by rfl) (by kernel_rfl) ?_
    have hsz : w.heap.size ≤ w1.heap.size := by omega
    have hszr : w1.heap.size ≤ w1.heap.size := Nat.le_refl _
    obtain ⟨es1, ck1, hM, hMemo⟩ := hM
    have hSk := hSon _ (getD_lt (l := S) (d := sv0) hkS)
    have hfb := rfe_bnd nd pl (L.map (·.xs)) (S.map (·.xs)) (wt + 1) (aftL pl wt S0 (S.getD k sv0).xs).1
    refine r_forget [(3, ptr wq 0), (4, ptr rb 0), (5, ptr fb 0), (7, ptr b2 0), (19, .slice ((S.getD k sv0).a) ((S.getD k sv0).xs.length) ((S.getD k sv0).c)), (20, .agg ⟨(((wt : Int) + 1 : Int) :: ((aftL pl wt S0 (S.getD k sv0).xs).1)).map vint⟩)] ⟨rfl, rfl, rfl, rfl, rfl, rfl, trivial⟩ (fun e6 => (r_seq (r_region' (l_q (qas rfl rfl) (l_nil (r_region' (l_o (o_alloc Try.zeroValue61 rfl rfl ?_))))))))
    intro b7 w7 hzl7 hzr7 _ hb7 hE7
    have hne_wb_b7 : wb ≠ b7 := by have := hk.blk.lt; omega
    have hne_pb_b7 : pb ≠ b7 := by have := hpb.lt; omega
    have hne_wq_b7 : wq ≠ b7 := by have := hwq.lt; omega
    have hne_rb_b7 : rb ≠ b7 := by have := hc.lt; omega
    have hne_fb_b7 : fb ≠ b7 := by have := hfb1.lt; omega
    have hne_b1_b7 : b1 ≠ b7 := by have := hb1.lt; omega
    have hne_b2_b7 : b2 ≠ b7 := by have := hb2.lt; omega
    have hne_bx4_b7 : bx4 ≠ b7 := by have := hx4.lt; omega
    have hne_by4_b7 : by4 ≠ b7 := by have := hy4.lt; omega
    have hbs_b7 : w.heap.size ≤ b7 := Nat.le_trans hsz hzl7
    replace hM := hM.keep (hE7.block m hM.lt (by simp))
    replace hG0 := grown_trans hG0 (gm_ext hE7)
    replace hb1 := hb1.ext hE7
    replace hb2 := hb2.ext hE7
    replace hx4 := hx4.ext hE7
    replace hy4 := hy4.ext hE7
    replace hlp := hLk _ _ _ _ hlp (hE7.block l (((hLp _ _ _).1 hlp).lt) (by simp))
    replace hdb := (hE7.block db (heap_lt hdb) (by simp)).trans hdb
    replace hszr := Nat.le_trans hszr hE7.size
    replace hsz := Nat.le_trans hsz hE7.size
    refine l_o (o_store_all (cs' := (((wt : Int) + 1 : Int) :: ((aftL pl wt S0 (S.getD k sv0).xs).1)).map vint) Try.sizeOf61 rfl rfl hb7 (rfl) (by simp only [List.length_map, List.length_cons, (show ((aftL pl wt S0 (S.getD k sv0).xs).1).length = 8 from (by rw [aft_len]; exact hS8))]) (all_one_map _ _ (fun _ => rfl)) rfl ?_)
    intro w8 hz8 hb7 hG8
    replace hsz : w.heap.size ≤ w8.heap.size := by rw [hz8]; exact hsz
    replace hM := hM.keep (hG8.block m hM.lt (by simp; omega))
    replace hG0 := gm_upd hG0 hG8 (by omega)
    replace hb1 := hb1.upd hG8 (by omega)
    replace hb2 := hb2.upd hG8 (by omega)
    replace hx4 := hx4.upd hG8 (by omega)
    replace hy4 := hy4.upd hG8 (by omega)
    replace hlp := hLk _ _ _ _ hlp (hG8.block l (((hLp _ _ _).1 hlp).lt) (by simp; omega))
    replace hdb := (hG8.block db (heap_lt hdb) (by simp; omega)).trans hdb
    replace hszr := Nat.le_trans hszr hG8.size
    refine l_nil (r_begin rfl ((hLp _ _ _).1 hlp) ?_)
    intro wb9 hzb9 hgb9 hl9
    replace hsz : w.heap.size ≤ wb9.heap.size := by rw [hzb9]; exact hsz
    replace hM := hM.keep (hgb9.block m hM.lt (by simp; omega))
    replace hG0 := gm_upd hG0 hgb9 (by omega)
    replace hb1 := hb1.upd hgb9 (by omega)
    replace hb2 := hb2.upd hgb9 (by omega)
    replace hx4 := hx4.upd hgb9 (by omega)
    replace hy4 := hy4.upd hgb9 (by omega)
    replace hdb := (hgb9.block db (heap_lt hdb) (by simp; omega)).trans hdb
    replace hszr := Nat.le_trans hszr hgb9.size
    replace hb7 := hb7.upd hgb9 (by omega)
    have hlp := (hLp _ _ _).2 hl9
    refine r_block (r_seq (r_draw (gm_refl m) (gm_trans m) [0, 1, 2, 3, 6, 4, 5, 7] [4] 12 (by kernel_rfl) (by kernel_rfl) ?_))
    intro w10 _ hE10
    replace hM := hM.keep (hE10.block m hM.lt (by simp))
    replace hG0 := grown_trans hG0 (gm_ext hE10)
    replace hb1 := hb1.ext hE10
    replace hb2 := hb2.ext hE10
    replace hx4 := hx4.ext hE10
    replace hy4 := hy4.ext hE10
    replace hdb := (hE10.block db (heap_lt hdb) (by simp)).trans hdb
    replace hszr := Nat.le_trans hszr hE10.size
    replace hb7 := hb7.ext hE10
    replace hlp := hLk _ _ _ _ hlp (hE10.block l (((hLp _ _ _).1 hlp).lt) (by simp))
    replace hsz := Nat.le_trans hsz hE10.size
    refine m_q rfl rfl (fun w' hC' => qms rfl rfl) (m_q rfl rfl (fun w' hC' => q_len rfl Try.underlying26 rfl rfl) (m_q rfl rfl (fun w' hC' => q_load Try.isAgg51 rfl ((((hwq.gm hM0 hG0).step hC' (by simp; omega)).has (o := 0) rfl)) rfl) (m_q rfl rfl (fun w' hC' => q_load_agg (n := 9) Try.isAgg61 Try.sizeOf61 rfl (((hb7.step hC' (by simp; omega)).cells0)) (by simp only [List.length_map, List.length_cons, (show ((aftL pl wt S0 (S.getD k sv0).xs).1).length = 8 from (by rw [aft_len]; exact hS8))]) rfl) (m_q rfl rfl (fun w' hC' => q_load Try.isAgg3 rfl (((hb2.step hC' (by simp; omega)).has (o := 0) rfl)) rfl) (m_o rfl rfl (o_call Try.call17 rfl (rfew_ret hok hSn hSon _ (wt + 1) (aftL pl wt S0 (S.getD k sv0).xs).1 _ _ _ (Nat.le_refl _) (by omega) (by rw [aft_len]; exact hS8) (aft_b hSb (by omega) (fun x hx => (hpp x hx).2.2)) (hk.gm hM0 hG0) hM hMemo) rfl ?_))))))
    rintro _ w11 ⟨rfl, esc11, ckc11, hMc11, hMm11, hGc11⟩
    refine ⟨hGc11, ?_⟩
    replace hsz : w.heap.size ≤ w11.heap.size := Nat.le_trans hsz hGc11.size
    replace hG0 := gm_upd hG0 hGc11 (by omega)
    replace hb1 := hb1.upd hGc11 (by omega)
    replace hb2 := hb2.upd hGc11 (by omega)
    replace hx4 := hx4.upd hGc11 (by omega)
    replace hy4 := hy4.upd hGc11 (by omega)
    replace hdb := (hGc11.block db (heap_lt hdb) (by simp; omega)).trans hdb
    replace hszr := Nat.le_trans hszr hGc11.size
    replace hb7 := hb7.upd hGc11 (by omega)
    replace hlp := hLk _ _ _ _ hlp (hGc11.block l (((hLp _ _ _).1 hlp).lt) (by simp; omega))
    have hM := hMc11
    have hMemo := hMm11
    refine m_q rfl rfl (fun w' hC' => q_add rfl rfl (by omega) rfl) (m_q rfl rfl (fun w' hC' => q_eql rfl rfl rfl) (m_nil (r_forget [(4, .pointer _), (5, .pointer _), (7, .pointer _), (8, .slice _ _ _), (9, .pointer _), (28, .bool _)] ⟨rfl, rfl, rfl, rfl, rfl, rfl, trivial⟩ (fun e12 => (r_cond rfl (fun hc13 => ?_) (fun hc13 => ?_))))))
    ·
     replace hc13 := dt hc13
     have heq := hc13
     refine r_seq ?_
     have hRge := ho.lt
     have ho2 := own_gm ho hM0 hG0
     have hos2 := hos.unc hM0.unc hG0
     have hc2 := hc.gm hM0 hG0
     have hFX := frX_gm hF hG0
     have hFW : FrS (SW m rb ra) w w11 := frW_gm hG0
     have hszW : W.heap.size ≤ w11.heap.size := hFX.size
     refine r_draw ext_refl' ext_trans' [0, 1, 2, 3, 4, 5] [2, 3, 4, 5, 1004, 1005] 12 (by kernel_rfl) (by kernel_rfl) ?_
     intro w14 _ hE14
     replace hb1 := hb1.ext hE14
     replace hb2 := hb2.ext hE14
     replace hx4 := hx4.ext hE14
     replace hy4 := hy4.ext hE14
     replace hdb := (hE14.block db (heap_lt hdb) (by simp)).trans hdb
     replace hszr := Nat.le_trans hszr hE14.size
     replace hb7 := hb7.ext hE14
     replace hlp := hLk _ _ _ _ hlp (hE14.block l (((hLp _ _ _).1 hlp).lt) (by simp))
     replace hM := hM.keep (hE14.block m hM.lt (by simp))
     replace ho2 := own_ext ho2 hE14
     replace hos2 := hos2.ext hE14
     replace hc2 := hc2.ext hE14
     replace hFX := hFX.ext hE14
     replace hFW := hFW.ext hE14
     replace hszW := Nat.le_trans hszW hE14.size
     replace hsz := Nat.le_trans hsz hE14.size
     refine m_q rfl rfl (fun w' hC' => q_load Try.isAgg22 rfl (((hc2.has (o := 0) rfl).ext hC')) rfl) (m_q rfl rfl (fun w' hC' => qms rfl rfl) (m_o rfl rfl (o_call Try.call21 rfl (clone_ret _ _ (S.getD k sv0).xs _ (RowsI.any (hX.wkc hFX).rSr k) (by omega)) rfl ?_)))
     rintro _ w15 ⟨a15_0, c15_0, rfl, ho15_0, hE15⟩
     replace ho15_0 := own_mono ho15_0 (show w.heap.size ≤ _ by omega)
     refine ⟨hE15, ?_⟩
     replace hb1 := hb1.ext hE15
     replace hb2 := hb2.ext hE15
     replace hx4 := hx4.ext hE15
     replace hy4 := hy4.ext hE15
     replace hdb := (hE15.block db (heap_lt hdb) (by simp)).trans hdb
     replace hszr := Nat.le_trans hszr hE15.size
     replace hb7 := hb7.ext hE15
     replace hlp := hLk _ _ _ _ hlp (hE15.block l (((hLp _ _ _).1 hlp).lt) (by simp))
     replace hM := hM.keep (hE15.block m hM.lt (by simp))
     replace ho2 := own_ext ho2 hE15
     replace hos2 := hos2.ext hE15
     replace hc2 := hc2.ext hE15
     replace hFX := hFX.ext hE15
     replace hFW := hFW.ext hE15
     replace hszW := Nat.le_trans hszW hE15.size
     replace hsz := Nat.le_trans hsz hE15.size
     refine m_o rfl rfl (o_buildSlice (el := 26) (cs := [.slice a15_0 (((S.getD k sv0).xs).length) c15_0]) Try.underlying22 el26 (by decide) (by kernel_rfl) rfl (by decide) rfl ?_)
     intro b16 w16 hzl16 hzr16 _ hb16 hE16 ho16
     refine ⟨hE16, ?_⟩
     have hne_b1_b16 : b1 ≠ b16 := by have := hb1.lt; omega
     have hne_b2_b16 : b2 ≠ b16 := by have := hb2.lt; omega
     have hne_bx4_b16 : bx4 ≠ b16 := by have := hx4.lt; omega
     have hne_by4_b16 : by4 ≠ b16 := by have := hy4.lt; omega
     have hne_b7_b16 : b7 ≠ b16 := by have := hb7.lt; omega
     have hne_rb_b16 : rb ≠ b16 := by have := hc2.lt; omega
     have hne_fb_b16 : fb ≠ b16 := by have := (hX.cfc hFX).lt; omega
     have hbs_b16 : w.heap.size ≤ b16 := Nat.le_trans hsz hzl16
     have hWp_b16 := hszW
     have hbW_b16 := Nat.le_trans hszW hzl16
     replace hb1 := hb1.ext hE16
     replace hb2 := hb2.ext hE16
     replace hx4 := hx4.ext hE16
     replace hy4 := hy4.ext hE16
     replace hdb := (hE16.block db (heap_lt hdb) (by simp)).trans hdb
     replace hszr := Nat.le_trans hszr hE16.size
     replace hb7 := hb7.ext hE16
     replace hlp := hLk _ _ _ _ hlp (hE16.block l (((hLp _ _ _).1 hlp).lt) (by simp))
     replace hM := hM.keep (hE16.block m hM.lt (by simp))
     replace ho2 := own_ext ho2 hE16
     replace hos2 := hos2.ext hE16
     replace hc2 := hc2.ext hE16
     replace hFX := hFX.ext hE16
     replace hFW := hFW.ext hE16
     replace hszW := Nat.le_trans hszW hE16.size
     replace ho15_0 := own_ext ho15_0 hE16
     replace hsz := Nat.le_trans hsz hE16.size
     refine m_last rfl rfl rfl (o_append_two (f := SV.enc) R (⟨a15_0, c15_0, (S.getD k sv0).xs⟩ : SV) Try.underlying22 el26 rfl rfl ho2 rfl hb16 rfl (by omega) hszW rfl ?_)
     intro g9 c9 w17 hz9 ho9 hd9
     have hin9 : ra = some ⟨g9, 0, none⟩ → W.heap.size ≤ g9 ∧ g9 < w.heap.size := fun ha => hRge g9 (by rw [ha]; rfl)
     have hlg := two_ne (l := l) hd9 (((hLp _ _ _).1 hlp).lt) (fun ha => by have := (hin9 ha).2; omega)
     have hdg := two_ne (l := db) hd9 (heap_lt hdb) (fun ha => by have := (hin9 ha).2; omega)
     replace hb1 := two_blk hd9 hb1 (fun ha => by have := hin9 ha; omega)
     replace hb2 := two_blk hd9 hb2 (fun ha => by have := hin9 ha; omega)
     replace hx4 := two_blk hd9 hx4 (fun ha => by have := hin9 ha; omega)
     replace hy4 := two_blk hd9 hy4 (fun ha => by have := hin9 ha; omega)
     replace hb7 := two_blk hd9 hb7 (fun ha => by have := hin9 ha; omega)
     replace hc2 := two_blk hd9 hc2 (fun ha => by have := hin9 ha; have := hrbl; omega)
     replace hsz := Nat.le_trans hsz hz9
     replace hszW := Nat.le_trans hszW hz9
     replace hszr := Nat.le_trans hszr hz9
     have hW9 : w.heap.size ≤ w16.heap.size := by omega
     replace hM := hM.keep (two_heap hd9 hM.lt (fun ha => by have := hin9 ha; have := hX.mlt; omega))
     replace hlp := hLk _ _ _ _ hlp (two_heap hd9 (((hLp _ _ _).1 hlp).lt) (fun ha => by have := (hin9 ha).2; omega))
     replace hdb := (two_heap hd9 (heap_lt hdb) (fun ha => by have := (hin9 ha).2; omega)).trans hdb
     replace hFX := frX_two hFX hd9 (fun ha => .inl (hin9 ha).1)
     replace hFW := frX_two hFW hd9 (fun ha => .inr (.inr (.inr (by rw [ha]; rfl))))
     have hos9 : OwnsI w17 W.heap.size 3 (R ++ [(⟨a15_0, c15_0, (S.getD k sv0).xs⟩ : SV)]) := OwnsI.snoc (OwnsI.kept hos2 ho2 (by decide) (two_grown hd9)) (own_mono (own_kept ho15_0 ho2 (by decide) (two_grown hd9)) (by omega))
     refine m_last rfl rfl rfl (o_store (vs := [.slice (some ⟨g9, 0, none⟩) ((R ++ [(⟨a15_0, c15_0, (S.getD k sv0).xs⟩ : SV)]).length) c9]) (cs' := [.slice (some ⟨g9, 0, none⟩) ((R ++ [(⟨a15_0, c15_0, (S.getD k sv0).xs⟩ : SV)]).length) c9]) Try.sizeOf22 rfl rfl rfl rfl hc2 (Nat.le_of_ble_eq_true rfl) rfl rfl ?_)
     intro w18 hz18 hc2 hG18
     replace hsz : w.heap.size ≤ w18.heap.size := by rw [hz18]; exact hsz
     replace hb1 := hb1.upd hG18 (by omega)
     replace hb2 := hb2.upd hG18 (by omega)
     replace hx4 := hx4.upd hG18 (by omega)
     replace hy4 := hy4.upd hG18 (by omega)
     replace hdb := (hG18.block db (heap_lt hdb) (by simp; omega)).trans hdb
     replace hszr := Nat.le_trans hszr hG18.size
     replace hb7 := hb7.upd hG18 (by omega)
     replace hlp := hLk _ _ _ _ hlp (hG18.block l (((hLp _ _ _).1 hlp).lt) (by simp; omega))
     replace hM := hM.keep (hG18.block m hM.lt (by simp; omega))
     replace hFX := hFX.grown hG18 (fun k hk hlt => by cases hk; first | exact .inr rfl | (exfalso; omega))
     replace hFW := hFW.grown hG18 (fun k hk hlt => by cases hk; first | exact .inr (.inl rfl) | (exfalso; omega))
     replace hszW := Nat.le_trans hszW hG18.size
     replace ho9 := own_updlt ho9 hG18 (by omega)
     replace hos9 := (fun s hs => own_updlt (hos9 s hs) hG18 (by omega))
     refine m_nil (r_seq (r_region' (l_q (q_load Try.isAgg62 rfl (((hX.cfc hFX).has (o := 0) rfl)) rfl) (l_q (q_load_agg (n := 9) Try.isAgg61 Try.sizeOf61 rfl ((hb7.cells0)) (by simp only [List.length_map, List.length_cons, (show ((aftL pl wt S0 (S.getD k sv0).xs).1).length = 8 from (by rw [aft_len]; exact hS8))]) rfl) (l_q (q_load Try.isAgg3 rfl ((hb2.has (o := 0) rfl)) rfl) (l_q (qms rfl rfl) (l_q (q_len rfl Try.underlying26 rfl rfl) (l_q (q_sub rfl rfl (by omega) rfl) ?_))))))))
     have hleft : rfe nd pl (L.map (·.xs)) (S.map (·.xs)) wt S0 - (((S.getD k sv0).xs.length : Nat) : Int) = rfe nd pl (L.map (·.xs)) (S.map (·.xs)) (wt + 1) ((aftL pl wt S0 (S.getD k sv0).xs).1) := by omega
     have hih := ih (wt + 1) (aftL pl wt S0 (S.getD k sv0).xs).1 _ _ _ _ _ (R ++ [(⟨a15_0, c15_0, (S.getD k sv0).xs⟩ : SV)]) (by omega) (by omega) (by rw [aft_len]; exact hS8) (aft_b hSb (by omega) (fun x hx => (hpp x hx).2.2)) hFX hc2 ho9 hos9 (by rw [List.length_append]; simp; omega) hM hMemo
     rw [← hleft] at hih
     refine l_o (o_callv (f := 19) (fst := []) (cap := [_, _, _, _]) rfl Try.call19 rfl (hih) rfl ?_)
     rintro _ w19 ⟨rfl, hEX, hFr9⟩
     have hszp := hFr9.size
     replace hlp := hLk _ _ _ _ hlp (hFr9.keep l (((hLp _ _ _).1 hlp).lt) (by rintro (h | h | h); omega; omega; exact hlg (by injection h with h; exact h.symm)))
     replace hdb := (hFr9.keep db (heap_lt hdb) (by rintro (h | h | h); omega; omega; exact hdg (by injection h with h; exact h.symm))).trans hdb
     replace hFW := frW_trans hFW hFr9 hd9 hW9
     replace hsz := Nat.le_trans hsz hszp
     replace hszr := Nat.le_trans hszr hszp
     have hT : (R ++ [(⟨a15_0, c15_0, (S.getD k sv0).xs⟩ : SV)]).map (·.xs) ++ rext nd pl (L.map (·.xs)) (S.map (·.xs)) (wt + 1) ((aftL pl wt S0 (S.getD k sv0).xs).1) = R.map (·.xs) ++ rext nd pl (L.map (·.xs)) (S.map (·.xs)) wt S0 := by rw [List.map_append, List.append_assoc, rext_found hwl hkS (exB_yes hnx heq) hno]; rfl
     rw [hT] at hEX
     refine l_nil (r_forget [] trivial (fun e20 => (r_round_ret rfl ((hLp _ _ _).1 hlp) ?_)))
     intro we21 hze21 hge21 hl21
     replace hsz : w.heap.size ≤ we21.heap.size := by rw [hze21]; exact hsz
     replace hdb := (hge21.block db (heap_lt hdb) (by simp; omega)).trans hdb
     replace hFW := hFW.grown hge21 (fun k hk hlt => by cases hk; first | exact .inr (.inl rfl) | (exfalso; omega))
     replace hszr := Nat.le_trans hszr hge21.size
     replace hEX := ExW.step hEX hge21 (by first | exact ((hLp _ _ _).1 hlp).unc | exact unc_def hdb) (by omega)
     have hlp := (hLp _ _ _).2 hl21
     exact ⟨false, rfl, (fun h => by cases h), fun _ => ⟨hlp, hdb, hEX, hFW⟩, hszr⟩
    ·
     replace hc13 := df hc13
     have hne := hc13
     refine r_skip (r_inBlock (r_round_end rfl ((hLp _ _ _).1 hlp) ?_))
     intro we22 hze22 hge22 hl22
     replace hsz : w.heap.size ≤ we22.heap.size := by rw [hze22]; exact hsz
     replace hG0 := gm_upd hG0 hge22 (by omega)
     replace hb1 := hb1.upd hge22 (by omega)
     replace hb2 := hb2.upd hge22 (by omega)
     replace hx4 := hx4.upd hge22 (by omega)
     replace hy4 := hy4.upd hge22 (by omega)
     replace hdb := (hge22.block db (heap_lt hdb) (by simp; omega)).trans hdb
     replace hszr := Nat.le_trans hszr hge22.size
     replace hM := hM.keep (hge22.block m hM.lt (by simp; omega))
     have hlp := (hLp _ _ _).2 hl22
     exact ⟨true, rfl, fun _ => ⟨⟨_, _, hM, hMemo⟩, hG0, hb1, hb2, hx4, hy4, hlp, hdb, (fun j hj => by rcases Nat.lt_succ_iff_lt_or_eq.1 hj with h | h; exact hno j h; subst h; exact exB_ne hne)⟩, (fun h => by cases h), hszr⟩
  · rintro _ w2 (hJ | hJ)
    ·
     obtain ⟨hM, hG0, hb1, hb2, hx4, hy4, hlp, hdb, hno⟩ := hJ
     obtain ⟨es1, ck1, hM, hMemo⟩ := hM
     refine ⟨.ready, none, (by decide), hlp, rfl, ?_⟩
     intro w3 hz3 hg3
     have hsz2 : w.heap.size ≤ w2.heap.size := by have := hG0.size; omega
     have hsz : w.heap.size ≤ w3.heap.size := by rw [hz3]; exact hsz2
     replace hM := hM.keep (hg3.block m hM.lt (by simp; omega))
     replace hG0 := gm_upd hG0 hg3 (by omega)
     replace hdb := (hg3.block db (heap_lt hdb) (by simp; omega)).trans hdb
     refine r_inBlock ?_
     obtain ⟨wf23, hUf, hzf23, hGf23⟩ := unw_one hdb
     replace hsz : w.heap.size ≤ wf23.heap.size := by rw [hzf23]; exact hsz
     replace hM := hM.keep (hGf23.block m hM.lt (by simp; omega))
     replace hG0 := gm_upd hG0 hGf23 (by omega)
     refine r_end_ (vs := []) rfl Try.func19 rfl (hUf) trivial ?_
     exact ⟨rfl, ⟨ra, rc, R, ⟨by rw [rext_none hwl hno, List.append_nil], hc.gm hM0 hG0, own_gm ho hM0 hG0, hos.unc hM0.unc hG0, _, _, hM, hMemo⟩⟩, frW_gm hG0⟩
    ·
     obtain ⟨hlp, hdb, hEX, hFW⟩ := hJ
     refine ⟨.done, some (.ret), (by decide), hlp, rfl, ?_⟩
     intro w3 hz3 hg3
     have hsz2 : w.heap.size ≤ w2.heap.size := by have := hFW.size; omega
     have hsz : w.heap.size ≤ w3.heap.size := by rw [hz3]; exact hsz2
     replace hEX := ExW.step hEX hg3 (by first | exact ((hLp _ _ _).1 hlp).unc | exact unc_def hdb) (by omega)
     replace hFW := hFW.grown hg3 (fun k hk hlt => by cases hk; first | exact .inr (.inl rfl) | (exfalso; omega))
     replace hdb := (hg3.block db (heap_lt hdb) (by simp; omega)).trans hdb
     obtain ⟨wf24, hUf, hzf24, hGf24⟩ := unw_one hdb
     replace hsz : w.heap.size ≤ wf24.heap.size := by rw [hzf24]; exact hsz
     replace hEX := ExW.step hEX hGf24 (by first | exact ((hLp _ _ _).1 hlp).unc | exact unc_def hdb) (by omega)
     replace hFW := hFW.grown hGf24 (fun k hk hlt => by cases hk; first | exact .inr (.inl rfl) | (exfalso; omega))
     refine r_ret_ (vs := []) rfl Try.func19 rfl (hUf) trivial ?_
     exact ⟨rfl, hEX, hFW⟩
end Go.Proofs.Ytbikicakdkbcgaa
