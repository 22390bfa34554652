/- Contracts. -/
import Derived.Test.YtbikicakdkbcgaaR6
set_option linter.unusedVariables false
set_option linter.unusedSimpArgs false
namespace Go.Proofs.Ytbikicakdkbcgaa
open Go Go.RowKit Go.Gv Go.Fl

theorem RowsP.gm {w w' : World} {l : List PV} {m : Nat} {es : List MapEntry} {clock : Nat} (h : RowsP w l) (hM : MapAt w m es clock) (hg : w.grownBy w' (some m)) : RowsP w' l := fun x hx => (h x hx).gm hM hg
theorem PoAt.gm {w w' : World} {na : Option Addr} {nc : Nat} {nd : List Int} {pa : Option Addr} {pc : Nat} {pl : List PV} {ca : Option Addr} {cc : Nat} {L : List SV} {m : Nat} {es : List MapEntry} {clock : Nat} (h : PoAt w na nc nd pa pc pl ca cc L) (hM : MapAt w m es clock) (hg : w.grownBy w' (some m)) : PoAt w' na nc nd pa pc pl ca cc L :=
  ⟨h.rnd.gm hM hg, h.rpl.gm hM hg, h.rplr.gm hM hg, h.rC.gm hM hg, h.rCr.gm hM hg⟩
theorem WkH.gm {w w' : World} {na : Option Addr} {nc : Nat} {nd : List Int} {pa : Option Addr} {pc : Nat} {pl : List PV} {ca : Option Addr} {cc : Nat} {L : List SV} {wb : Nat} {oa : Option Addr} {oc : Nat} {S : List SV} {m : Nat} {es : List MapEntry} {clock : Nat}
    (h : WkH w na nc nd pa pc pl ca cc L wb oa oc S m) (hM : MapAt w m es clock) (hg : w.grownBy w' (some m)) : WkH w' na nc nd pa pc pl ca cc L wb oa oc S m :=
  ⟨h.po.gm hM hg, h.blk.gm hM hg, h.rS.gm hM hg, h.rSr.gm hM hg⟩
/-- the fewest duties from a spot on; 1024, if no rota is safe -/
def rfeN (nd : List Int) (pl : List PV) (C LS : List (List Int)) : Nat → Nat → List Int → Int
  | 0, _, _ => 0
  | n + 1, wt, S0 => LS.foldl (fun x on => if nxOK nd pl C wt S0 on = true then min x ((on.length : Int) + rfeN nd pl C LS n (wt + 1) (aftL pl wt S0 on).1) else x) 1024
def rfe (nd : List Int) (pl : List PV) (C LS : List (List Int)) (wt : Nat) (S0 : List Int) : Int := rfeN nd pl C LS (nd.length - wt) wt S0
def rstep (nd : List Int) (pl : List PV) (C LS : List (List Int)) (wt : Nat) (S0 : List Int) (x : Int) (on : List Int) : Int := if nxOK nd pl C wt S0 on = true then min x ((on.length : Int) + rfe nd pl C LS (wt + 1) (aftL pl wt S0 on).1) else x
def rfeA (nd : List Int) (pl : List PV) (C LS : List (List Int)) (k : Nat) (wt : Nat) (S0 : List Int) : Int := (LS.take k).foldl (rstep nd pl C LS wt S0) 1024
section
variable {nd : List Int} {pl : List PV} {C LS : List (List Int)} {wt k : Nat} {S0 : List Int}
theorem rfe_end (h : nd.length ≤ wt) : rfe nd pl C LS wt S0 = 0 := by unfold rfe; rw [Nat.sub_eq_zero_of_le h]; rfl
theorem rfe_succ (h : wt < nd.length) : rfe nd pl C LS wt S0 = LS.foldl (rstep nd pl C LS wt S0) 1024 := by
  unfold rfe
  obtain ⟨n, hn⟩ : ∃ n, nd.length - wt = n + 1 := ⟨nd.length - wt - 1, by omega⟩
  rw [hn, rfeN]
  have : ∀ x on, (if nxOK nd pl C wt S0 on = true then min x ((on.length : Int) + rfeN nd pl C LS n (wt + 1) (aftL pl wt S0 on).1) else x) = rstep nd pl C LS wt S0 x on := fun x on => by
    unfold rstep rfe
    rw [show nd.length - (wt + 1) = n by omega]
  simp only [this]
theorem foldl_bnd {f : Int → List Int → Int} (hf : ∀ x on, 0 ≤ x ∧ x ≤ 1024 → 0 ≤ f x on ∧ f x on ≤ 1024) : ∀ (l : List (List Int)) (x : Int), 0 ≤ x ∧ x ≤ 1024 → 0 ≤ l.foldl f x ∧ l.foldl f x ≤ 1024
  | [], _, h => h
  | on :: l, x, h => foldl_bnd hf l _ (hf x on h)
end
theorem rfeN_bnd (nd : List Int) (pl : List PV) (C LS : List (List Int)) : ∀ (n wt : Nat) (S0 : List Int), 0 ≤ rfeN nd pl C LS n wt S0 ∧ rfeN nd pl C LS n wt S0 ≤ 1024
  | 0, _, _ => ⟨Int.le_refl _, by show (0 : Int) ≤ 1024; decide⟩
  | n + 1, wt, S0 => by
    rw [rfeN]
    refine foldl_bnd (fun x on hx => ?_) LS 1024 (by decide)
    have := rfeN_bnd nd pl C LS n (wt + 1) (aftL pl wt S0 on).1
    split <;> omega
theorem rfe_bnd (nd : List Int) (pl : List PV) (C LS : List (List Int)) (wt : Nat) (S0 : List Int) : 0 ≤ rfe nd pl C LS wt S0 ∧ rfe nd pl C LS wt S0 ≤ 1024 := rfeN_bnd nd pl C LS _ wt S0
section
variable {nd : List Int} {pl : List PV} {C : List (List Int)} {S : List SV} {wt k : Nat} {S0 : List Int}
theorem rfe_all (h : wt < nd.length) : rfeA nd pl C (S.map (·.xs)) S.length wt S0 = rfe nd pl C (S.map (·.xs)) wt S0 := by
  rw [rfe_succ h]; unfold rfeA
  rw [List.take_of_length_le (by rw [List.length_map]; exact Nat.le_refl _)]
theorem xs_take {S : List SV} {k : Nat} (h : k < S.length) : (S.map (·.xs)).take (k + 1) = (S.map (·.xs)).take k ++ [(S.getD k sv0).xs] := by
  rw [← List.map_take, ← List.map_take, List.take_add_one, List.getElem?_eq_getElem h, List.map_append]
  simp only [Option.toList_some, List.map_cons, List.map_nil, List.getD_eq_getElem?_getD, List.getElem?_eq_getElem h, Option.getD_some]
theorem rfeA_step (h : k < S.length) : rfeA nd pl C (S.map (·.xs)) (k + 1) wt S0 = rstep nd pl C (S.map (·.xs)) wt S0 (rfeA nd pl C (S.map (·.xs)) k wt S0) (S.getD k sv0).xs := by
  unfold rfeA
  rw [xs_take h, List.foldl_append]; rfl
theorem rfe_no (h : k < S.length) (hno : nxOK nd pl C wt S0 (S.getD k sv0).xs = false) : rfeA nd pl C (S.map (·.xs)) k wt S0 = rfeA nd pl C (S.map (·.xs)) (k + 1) wt S0 := by
  rw [rfeA_step h]; unfold rstep; rw [hno]; rfl
theorem rfe_yes (_hw : wt < nd.length) (h : k < S.length) (hx : nxOK nd pl C wt S0 (S.getD k sv0).xs = true) :
    min (rfeA nd pl C (S.map (·.xs)) k wt S0) (((S.getD k sv0).xs.length : Int) + rfe nd pl C (S.map (·.xs)) (wt + 1) (aftL pl wt S0 (S.getD k sv0).xs).1) = rfeA nd pl C (S.map (·.xs)) (k + 1) wt S0 := by
  rw [rfeA_step h]; unfold rstep; rw [if_pos hx]
end
/-- what is known of spots is so -/
def SMemo (nd : List Int) (pl : List PV) (C LS : List (List Int)) (es : List MapEntry) : Prop := ∀ en ∈ es, ∃ (wt : Nat) (S : List Int), S.length = 8 ∧ en.key = .agg ⟨((wt : Int) :: S).map vint⟩ ∧ en.val = vint (rfe nd pl C LS wt S)
theorem smemo_nil {nd : List Int} {pl : List PV} {C LS : List (List Int)} : SMemo nd pl C LS [] := fun _ h => by simp at h
theorem map_vint_inj : ∀ {a b : List Int}, a.map vint = b.map vint → a = b
  | [], [], _ => rfl
  | [], _ :: _, h => by cases h
  | _ :: _, [], h => by cases h
  | x :: a, y :: b, h => by
    rw [List.map_cons, List.map_cons] at h
    injection h with h1 h2
    injection h1 with _ h1
    rw [h1, map_vint_inj h2]
theorem spot_inj {x y : Nat} {a b : List Int} (h : Value.agg ⟨((x : Int) :: a).map vint⟩ = .agg ⟨((y : Int) :: b).map vint⟩) : x = y ∧ a = b := by
  injection h with h; injection h with h
  have := map_vint_inj h
  injection this with h1 h2
  exact ⟨by omega, h2⟩
section
variable {nd : List Int} {pl : List PV} {C LS : List (List Int)} {wt : Nat} {S0 : List Int} {es es' : List MapEntry} {v : Value} {ok : Bool}
theorem asks_spot (h : SMemo nd pl C LS es) (h8 : S0.length = 8) : Asks Try.prog 61 (.agg ⟨((wt : Int) :: S0).map vint⟩) es := fun en hen => by
  obtain ⟨x, S, hS, h1, _⟩ := h en hen
  refine ⟨decide ((wt : Int) :: S0 = (x : Int) :: S), fun w => by rw [h1]; exact spotTy.equal h8 hS w, ?_⟩
  rw [h1, decide_eq_true_eq]
  exact ⟨fun h => by rw [h], fun h => by obtain ⟨rfl, rfl⟩ := spot_inj h; rfl⟩
theorem spot_get (h : SMemo nd pl C LS es) (h1 : ok = true → ∃ en ∈ es, en.key = .agg ⟨((wt : Int) :: S0).map vint⟩ ∧ en.val = v) (h2 : ok = false → v = vint 0 ∧ ∀ en ∈ es, en.key ≠ .agg ⟨((wt : Int) :: S0).map vint⟩) :
    ∃ x : Int, v = vint x ∧ (ok = true → x = rfe nd pl C LS wt S0) := by
  cases ok with
  | true =>
    obtain ⟨en, hen, hk, rfl⟩ := h1 rfl
    obtain ⟨x, S, _, h3, h4⟩ := h en hen
    obtain ⟨rfl, rfl⟩ := spot_inj (h3.symm.trans hk)
    exact ⟨_, h4, fun _ => rfl⟩
  | false => exact ⟨0, (h2 rfl).1, fun h => by cases h⟩
theorem spot_put (h8 : S0.length = 8) (h : SMemo nd pl C LS es) (hin : ∀ en ∈ es', (en ∈ es) ∨ (en.key = .agg ⟨((wt : Int) :: S0).map vint⟩ ∧ en.val = v)) (hv : v = vint (rfe nd pl C LS wt S0)) : SMemo nd pl C LS es' := fun en hen => by
  rcases hin en hen with h1 | ⟨h1, h2⟩
  · exact h en h1
  · exact ⟨wt, S0, h8, h1, h2.trans hv⟩
end
def FewW (nd : List Int) (pl : List PV) (C LS : List (List Int)) (m wt : Nat) (S0 : List Int) (w : World) (v : Value) (w' : World) : Prop := v = vint (rfe nd pl C LS wt S0) ∧ ∃ es clock, MapAt w' m es clock ∧ SMemo nd pl C LS es ∧ w.grownBy w' (some m)
section
variable {P : Program} {ops : Array Oper} {e : Env} {w : World}
variable {d : Option Nat} {ty : TypeId} {pos : String} {af : Array Edge} {g : Option (Nat × Bool)}
theorem q_lookup_all {t kt el : TypeId} {fs : Array Field} {x y : Operand} {m clock : Nat} {es : List MapEntry} {kv z : Value} (ht : P.underlying t = some (.map kt el)) (hk : P.underlying kt = some (.struct fs)) (hz : ∀ w, (zeroValue el).run P w = .ok z w)
    (hx : ev e x = .map (some m)) (hy : ev e y = kv) (hck : ∀ em w, (Instr.checkKey em 10000 kt kv).run P w = .ok () w) (ha : Asks P kt kv es)
    (hw : wantedE ops e ⟨d, .lookup t x y true, ty, pos, af, g⟩ = true) :
    ∃ v ok, (∀ w', MapAt w' m es clock → QuietAt P ops e w' ⟨d, .lookup t x y true, ty, pos, af, g⟩ (.tuple ⟨[v, .bool ok]⟩)) ∧ (ok = true → ∃ en ∈ es, en.key = kv ∧ en.val = v) ∧ (ok = false → v = z ∧ ∀ en ∈ es, en.key ≠ kv) := by
  obtain ⟨r, hr, h1, h2⟩ := find_key hk es ha
  have hg : ∀ w', MapAt w' m es clock → (getObj m).run P w' = .ok (.map es.toArray clock) w' := fun w' hm => by
    have hm' : w'.heap[m]? = some (.map es.toArray clock) := hm
    simp [getObj, Sem.run, hm']
  cases r with
  | none =>
    refine ⟨z, false, fun w' hm => .inl ⟨hw, rfl, ?_⟩, (fun h => by cases h), fun _ => ⟨rfl, h2 rfl⟩⟩
    simp [execOp, Instr.lookup, run_underlying ht, hx, hy, hg w' hm, hck, hr, hz]
  | some p =>
    obtain ⟨j, v⟩ := p
    obtain ⟨en, h3, h4, h5⟩ := h1 j v rfl
    refine ⟨v, true, fun w' hm => .inl ⟨hw, rfl, ?_⟩, (fun _ => ⟨en, List.mem_of_getElem? h3, h4, h5⟩), fun h => by cases h⟩
    simp [execOp, Instr.lookup, run_underlying ht, hx, hy, hg w' hm, hck, hr]
theorem m_look {Cls : World → World → Prop} {eff : List Nat} {K : Env → World → Prop} {i : Nat} {l : List Nat} {t kt el : TypeId} {fs : Array Field} {x y : Operand} {m clock : Nat} {es : List MapEntry} {kv z : Value}
    (ho : ops[i]? = some ⟨d, .lookup t x y true, ty, pos, af, g⟩) (hi : eff.contains i = false) (ht : P.underlying t = some (.map kt el)) (hk : P.underlying kt = some (.struct fs)) (hz : ∀ w, (zeroValue el).run P w = .ok z w)
    (hx : ev e x = .map (some m)) (hy : ev e y = kv) (hm : ∀ w', Cls w w' → MapAt w' m es clock) (hck : ∀ em w, (Instr.checkKey em 10000 kt kv).run P w = .ok () w) (ha : Asks P kt kv es)
    (hw : wantedE ops e ⟨d, .lookup t x y true, ty, pos, af, g⟩ = true)
    (h : ∀ v ok, (ok = true → ∃ en ∈ es, en.key = kv ∧ en.val = v) → (ok = false → v = z ∧ ∀ en ∈ es, en.key ≠ kv) → Mix P ops Cls eff K l (updo e d (.tuple ⟨[v, .bool ok]⟩)) w) : Mix P ops Cls eff K (i :: l) e w := by
  obtain ⟨v, ok, hq, hA, hB⟩ := q_lookup_all (clock := clock) (d := d) (ty := ty) (pos := pos) (af := af) (g := g) ht hk hz hx hy hck ha hw
  exact m_q ho hi (fun w' hc => hq w' (hm w' hc)) (h v ok hA hB)
end

theorem fld90_2 (w : World) (b o : Nat) : (Instr.fieldAt 90 (ptr b o) 2).run Try.prog w = .ok (ptr b (o + 4)) w := by
  simp [Instr.fieldAt, run_underlying Try.underlying90, fieldPlace, Instr.sureAddr, Try.sizeOf88, Addr.add_lit]
theorem rfew_step (na : Option Addr) (nc : Nat) (nd : List Int) (pa : Option Addr) (pc : Nat) (pl : List PV) (ca : Option Addr) (cc : Nat) (L : List SV) (wb : Nat) (oa : Option Addr) (oc : Nat) (S : List SV) (m : Nat) (clock : Nat) (es : List MapEntry) (wt : Nat) (S0 : List Int) (w : World) (hok : faultP (po nd pl L) = 0) (hSn : S.length ≤ 2097152) (hSon : ∀ s ∈ S, s.xs.length ≤ 8 ∧ ∀ i ∈ s.xs, 0 ≤ i ∧ i ≤ (pl.length : Int) - 1) (hwt : wt ≤ nd.length) (hS8 : S0.length = 8) (hSb : ∀ v ∈ S0, -1 ≤ v ∧ v ≤ 1000) (hk : WkH w na nc nd pa pc pl ca cc L wb oa oc S m) (hM : MapAt w m es clock) (hMemo : SMemo nd pl (L.map (·.xs)) (S.map (·.xs)) es) (ih : ∀ (wt2 : Nat) (S2 : List Int) (w1 : World) (es1 : List MapEntry) (ck1 : Nat), nd.length - wt2 < nd.length - wt → wt2 ≤ nd.length → S2.length = 8 → (∀ v ∈ S2, -1 ≤ v ∧ v ≤ 1000) → WkH w1 na nc nd pa pc pl ca cc L wb oa oc S m → MapAt w1 m es1 ck1 → SMemo nd pl (L.map (·.xs)) (S.map (·.xs)) es1 → Ret Try.prog 17 [ptr wb 0, .agg ⟨((wt2 : Int) :: S2).map vint⟩] w1 (FewW nd pl (L.map (·.xs)) (S.map (·.xs)) m wt2 S2 w1)) : Ret Try.prog 17 [ptr wb 0, .agg ⟨((wt : Int) :: S0).map vint⟩] w (fun v w' => FewW nd pl (L.map (·.xs)) (S.map (·.xs)) m wt S0 w v w') := by
 obtain ⟨⟨hn1, hn5⟩, ⟨hp1, hp4⟩, hL4, hnn, hpp, hLL⟩ := po_ok hok
 have hM0 := hM
 have hG0 := gm_refl m w
 have hmN := hM.lt
 have hsz : w.heap.size ≤ w.heap.size := Nat.le_refl _
 refine ret_of_runs (args := [_, _]) Try.func17 rfl (Nat.le_of_ble_eq_true rfl) (by kernel_rfl) (r_seq (r_region' (l_o (o_box rfl rfl rfl ?_))))
 intro b1 w1 hzl1 hzr1 _ hb1 hE1
 have hne_wb_b1 : wb ≠ b1 := by have := hk.blk.lt; omega
 have hbs_b1 : w.heap.size ≤ b1 := Nat.le_trans hsz hzl1
 replace hM := hM.keep (hE1.block m hM.lt (by simp))
 replace hG0 := grown_trans hG0 (gm_ext hE1)
 replace hsz := Nat.le_trans hsz hE1.size
 refine l_o (o_box rfl rfl rfl ?_)
 intro b2 w2 hzl2 hzr2 _ hb2 hE2
 have hne_wb_b2 : wb ≠ b2 := by have := hk.blk.lt; omega
 have hne_b1_b2 : b1 ≠ b2 := by have := hb1.lt; omega
 have hbs_b2 : w.heap.size ≤ b2 := Nat.le_trans hsz hzl2
 replace hM := hM.keep (hE2.block m hM.lt (by simp))
 replace hG0 := grown_trans hG0 (gm_ext hE2)
 replace hb1 := hb1.ext hE2
 replace hsz := Nat.le_trans hsz hE2.size
 refine l_q (qai rfl rfl) (l_nil (r_seq (r_seq (r_draw ext_refl' ext_trans' [0, 1, 2, 3, 4, 5, 6, 7, 8] [] 9 (by kernel_rfl) (by kernel_rfl) ?_))))
 intro w3 _ hE3
 replace hM := hM.keep (hE3.block m hM.lt (by simp))
 replace hG0 := grown_trans hG0 (gm_ext hE3)
 replace hb1 := hb1.ext hE3
 replace hb2 := hb2.ext hE3
 replace hsz := Nat.le_trans hsz hE3.size
 refine m_q rfl rfl (fun w' hC' => q_fieldAddr (o' := 0) rfl fld61_0 rfl) (m_q rfl rfl (fun w' hC' => q_load Try.isAgg3 rfl (((hb2.has (o := 0) rfl).ext hC')) rfl) (m_q rfl rfl (fun w' hC' => q_load Try.isAgg51 rfl (((hb1.has (o := 0) rfl).ext hC')) rfl) (m_q rfl rfl (fun w' hC' => q_nilCheck rfl rfl) (m_q rfl rfl (fun w' hC' => q_fieldAddr (o' := 0) rfl fld90_0 rfl) (m_q rfl rfl (fun w' hC' => q_fieldAddr (o' := 0) rfl fld29_0 rfl) (m_q rfl rfl (fun w' hC' => q_load Try.isAgg26 rfl ((((hk.blk.gm hM0 hG0).has (o := 0) rfl).ext hC')) rfl) (m_q rfl rfl (fun w' hC' => q_len rfl Try.underlying26 rfl rfl) (m_q rfl rfl (fun w' hC' => q_eql rfl rfl rfl) (m_nil (r_forget [(2, .pointer _), (3, .pointer _), (17, .bool _)] ⟨rfl, rfl, rfl, trivial⟩ (fun e4 => (r_cond rfl (fun hc5 => ?_) (fun hc5 => ?_)))))))))))))
 ·
  replace hc5 := dt hc5
  refine r_seq (r_region' (l_q (qai rfl rfl) (l_nil (r_ret_ (vs := [.int _ _]) rfl Try.func17 rfl (.nil _) ⟨rfl, trivial⟩ ?_))))
  exact ⟨vint_eq (rfe_end (by omega)).symm, _, _, hM, hMemo, hG0⟩
 ·
  replace hc5 := df hc5
  have hwl : wt < nd.length := by omega
  refine r_skip (r_seq ?_)
  have hszR : w.heap.size ≤ w3.heap.size := hsz
  have hszW : w3.heap.size ≤ w3.heap.size := Nat.le_refl _
  have hltR_wb := (hk.blk.gm hM0 hG0).lt
  have hltR_b1 := hb1.lt
  have hltR_b2 := hb2.lt
  refine r_draw (Below.refl w3.heap.size) (fun _ _ _ h1 h2 => h1.trans h2) [0, 1, 2, 3, 4, 5, 6, 7, 8, 9, 10, 11] [9, 10] 12 (by kernel_rfl) (by kernel_rfl) ?_
  intro w6 _ hE6
  replace hM := hM.keep (hE6.block m hM.lt (by simp))
  replace hG0 := grown_trans hG0 (gm_ext hE6)
  replace hb1 := hb1.ext hE6
  replace hb2 := hb2.ext hE6
  replace hszW := Nat.le_trans hszW hE6.size
  replace hsz := Nat.le_trans hsz hE6.size
  refine m_q rfl rfl (fun w' hC' => q_load Try.isAgg51 rfl (((hb1.keep (hC'.block _ hltR_b1)).has (o := 0) rfl)) rfl) (m_q rfl rfl (fun w' hC' => q_nilCheck rfl rfl) (m_q rfl rfl (fun w' hC' => q_fieldAddr (o' := 4) rfl fld90_2 rfl) (m_q rfl rfl (fun w' hC' => q_load Try.isAgg88 rfl ((((hk.blk.gm hM0 hG0).keep (hC'.block _ hltR_wb)).has (o := 4) rfl)) rfl) (m_q rfl rfl (fun w' hC' => q_load_agg (n := 9) Try.isAgg61 Try.sizeOf61 rfl (((hb2.keep (hC'.block _ hltR_b2)).cells0)) (by simp only [List.length_map, List.length_cons, (show S0.length = 8 from hS8)]) rfl) (m_look rfl rfl Try.underlying88 Try.underlying61 Try.zeroValue3 rfl rfl (fun w2 hC2 => hM.keep (hC2.block m (by omega))) (fun em w => spotTy.key hS8 w) (asks_spot hMemo hS8) rfl ?_)))))
  intro v7 ok7 hA7 hB7
  obtain ⟨x7, rfl, hxl⟩ := spot_get hMemo hA7 hB7
  refine m_q rfl rfl (fun w' hC' => q_move (v := .tuple _) rfl rfl) (m_q rfl rfl (fun w' hC' => q_extract (vs := [_, _]) (v := .int _ _) rfl rfl rfl) (m_q rfl rfl (fun w' hC' => q_extract (vs := [_, _]) (v := .bool _) rfl rfl rfl) (m_o rfl rfl (o_alloc Try.zeroValue3 rfl rfl ?_))))
  intro b8 w8 hzl8 hzr8 _ hb8 hE8
  refine ⟨(below_ext_of hE8 hszW), ?_⟩
  have hne_wb_b8 : wb ≠ b8 := by have := hk.blk.lt; omega
  have hne_b1_b8 : b1 ≠ b8 := by have := hb1.lt; omega
  have hne_b2_b8 : b2 ≠ b8 := by have := hb2.lt; omega
  have hbs_b8 : w.heap.size ≤ b8 := Nat.le_trans hsz hzl8
  have hWp_b8 := hszW
  have hbW_b8 := Nat.le_trans hszW hzl8
  replace hM := hM.keep (hE8.block m hM.lt (by simp))
  replace hG0 := grown_trans hG0 (gm_ext hE8)
  replace hb1 := hb1.ext hE8
  replace hb2 := hb2.ext hE8
  replace hszW := Nat.le_trans hszW hE8.size
  replace hsz := Nat.le_trans hsz hE8.size
  refine m_o rfl rfl (o_store (vs := [vint x7]) (cs' := [vint x7]) Try.sizeOf3 rfl rfl rfl rfl hb8 (Nat.le_of_ble_eq_true rfl) rfl rfl ?_)
  intro w9 hz9 hb8 hG9
  refine ⟨(below_upd_of hG9 hbW_b8 hszW), ?_⟩
  replace hsz : w.heap.size ≤ w9.heap.size := by rw [hz9]; exact hsz
  replace hM := hM.keep (hG9.block m hM.lt (by simp; omega))
  replace hG0 := gm_upd hG0 hG9 (by omega)
  replace hb1 := hb1.upd hG9 (by omega)
  replace hb2 := hb2.upd hG9 (by omega)
  replace hszW := Nat.le_trans hszW hG9.size
  refine m_q rfl rfl (fun w' hC' => qab rfl rfl) (m_nil (r_forget [(2, .pointer _), (3, .pointer _), (5, .pointer _), (6, .bool _)] ⟨rfl, rfl, rfl, rfl, trivial⟩ (fun e10 => (r_seq (r_seq (r_region' (l_q (qmb rfl rfl) (l_nil (r_cond rfl (fun hc11 => ?_) (fun hc11 => ?_))))))))))
  ·
   have hxe := hxl hc11
   refine r_seq (r_region' (l_q (q_load Try.isAgg3 rfl ((hb8.has (o := 0) rfl)) rfl) (l_q (qai rfl rfl) (l_nil (r_ret_ (vs := [.int _ _]) rfl Try.func17 rfl (.nil _) ⟨rfl, trivial⟩ ?_)))))
   exact ⟨vint_eq hxe, _, _, hM, hMemo, hG0⟩
  ·
   refine r_skip (r_seq (r_region' (l_o (o_store (vs := [vint 1024]) (cs' := [vint 1024]) Try.sizeOf3 rfl rfl rfl rfl hb8 (Nat.le_of_ble_eq_true rfl) rfl rfl ?_))))
   intro w12 hz12 hb8 hG12
   replace hsz : w.heap.size ≤ w12.heap.size := by rw [hz12]; exact hsz
   replace hM := hM.keep (hG12.block m hM.lt (by simp; omega))
   replace hG0 := gm_upd hG0 hG12 (by omega)
   replace hb1 := hb1.upd hG12 (by omega)
   replace hb2 := hb2.upd hG12 (by omega)
   refine l_nil (r_seq (r_seq (r_region' (l_q (q_load Try.isAgg51 rfl ((hb1.has (o := 0) rfl)) rfl) (l_q (q_load_agg (n := 9) Try.isAgg61 Try.sizeOf61 rfl ((hb2.cells0)) (by simp only [List.length_map, List.length_cons, (show S0.length = 8 from hS8)]) rfl) (l_o (o_call Try.call20 rfl (next10_ret wb wt S0 _ hS8) rfl ?_)))))))
   rintro _ w13 ⟨bx13, by13, rfl, hbx13, hby13, hnexy13, hx13, hy13, hE13⟩
   have hne_b1_bx13 : b1 ≠ bx13 := by have := hb1.lt; omega
   have hne_b2_bx13 : b2 ≠ bx13 := by have := hb2.lt; omega
   have hne_b8_bx13 : b8 ≠ bx13 := by have := hb8.lt; omega
   have hne_b1_by13 : b1 ≠ by13 := by have := hb1.lt; omega
   have hne_b2_by13 : b2 ≠ by13 := by have := hb2.lt; omega
   have hne_b8_by13 : b8 ≠ by13 := by have := hb8.lt; omega
   have hbs_bx13 : w.heap.size ≤ bx13 := Nat.le_trans hsz hbx13
   have hbs_by13 : w.heap.size ≤ by13 := Nat.le_trans hsz hby13
   replace hM := hM.keep (hE13.block m hM.lt (by simp))
   replace hG0 := grown_trans hG0 (gm_ext hE13)
   replace hb1 := hb1.ext hE13
   replace hb2 := hb2.ext hE13
   replace hb8 := hb8.ext hE13
   replace hsz := Nat.le_trans hsz hE13.size
   refine l_nil (r_block (r_rangeFunc' (fst := []) (cap := [_, _]) rfl rfl Try.call44 ?_))
   intro l db wl Lp hLp hLk hEl hll hldb hlne hdbN hlN hdb hlp
   have hltm := hM.lt
   have hlt_b1 := hb1.lt
   have hlt_b2 := hb2.lt
   have hlt_b8 := hb8.lt
   have hlt_bx13 := hx13.lt
   have hlt_by13 := hy13.lt
   have hszl := hEl.size
   replace hM := hM.keep (hEl.block m hM.lt (by simp))
   replace hG0 := grown_trans hG0 (gm_ext hEl)
   replace hb1 := hb1.ext hEl
   replace hb2 := hb2.ext hEl
   replace hb8 := hb8.ext hEl
   replace hx13 := hx13.ext hEl
   replace hy13 := hy13.ext hEl
   replace hsz := Nat.le_trans hsz hEl.size
   have hbs_l : w.heap.size ≤ l := by omega
   have hbs_db : w.heap.size ≤ db := by omega
   have hJ0 : (fun (k : Nat) wq => (∃ es ck, MapAt wq m es ck ∧ SMemo nd pl (L.map (·.xs)) (S.map (·.xs)) es) ∧ (w.grownBy wq (some m)) ∧ (Blk wq b1 [ptr wb 0]) ∧ (Blk wq b2 (((wt : Int) :: S0).map vint)) ∧ (Blk wq b8 [vint (rfeA nd pl (L.map (·.xs)) (S.map (·.xs)) k wt S0)]) ∧ (Blk wq bx13 [ptr wb 0]) ∧ (Blk wq by13 (((wt : Int) :: S0).map vint)) ∧ (Lp wq .ready none) ∧ (wq.heap[db]? = some (.deferred (some [])))) 0 wl := ⟨⟨_, _, hM, hMemo⟩, hG0, hb1, hb2, hb8, hx13, hy13, hlp, hdb⟩
   have hJs : ∀ k w1 w2, (fun (k : Nat) wq => (∃ es ck, MapAt wq m es ck ∧ SMemo nd pl (L.map (·.xs)) (S.map (·.xs)) es) ∧ (w.grownBy wq (some m)) ∧ (Blk wq b1 [ptr wb 0]) ∧ (Blk wq b2 (((wt : Int) :: S0).map vint)) ∧ (Blk wq b8 [vint (rfeA nd pl (L.map (·.xs)) (S.map (·.xs)) k wt S0)]) ∧ (Blk wq bx13 [ptr wb 0]) ∧ (Blk wq by13 (((wt : Int) :: S0).map vint)) ∧ (Lp wq .ready none) ∧ (wq.heap[db]? = some (.deferred (some [])))) k w1 → Below wl.heap.size w1 w2 → (fun (k : Nat) wq => (∃ es ck, MapAt wq m es ck ∧ SMemo nd pl (L.map (·.xs)) (S.map (·.xs)) es) ∧ (w.grownBy wq (some m)) ∧ (Blk wq b1 [ptr wb 0]) ∧ (Blk wq b2 (((wt : Int) :: S0).map vint)) ∧ (Blk wq b8 [vint (rfeA nd pl (L.map (·.xs)) (S.map (·.xs)) k wt S0)]) ∧ (Blk wq bx13 [ptr wb 0]) ∧ (Blk wq by13 (((wt : Int) :: S0).map vint)) ∧ (Lp wq .ready none) ∧ (wq.heap[db]? = some (.deferred (some [])))) k w2 := fun k w1 w2 hJ hB2 => by
     obtain ⟨q0, q1, q2, q3, q4, q5, q6, q7, q8⟩ := hJ
     exact ⟨(let ⟨es, ck, h1, h2⟩ := q0; ⟨es, ck, h1.keep (hB2.block m (by omega)), h2⟩), (gm_below q1 hB2 (by omega)), (q2.keep (hB2.block _ (by omega))), (q3.keep (hB2.block _ (by omega))), (q4.keep (hB2.block _ (by omega))), (q5.keep (hB2.block _ (by omega))), (q6.keep (hB2.block _ (by omega))), (hLk _ _ _ _ q7 (hB2.block l hlN)), ((hB2.block db hdbN).trans q8)⟩
   refine (next1w_ret l bx13 by13 na nc nd pa pc pl ca cc L wb oa oc S m wt S0 (fun (k : Nat) wq => (∃ es ck, MapAt wq m es ck ∧ SMemo nd pl (L.map (·.xs)) (S.map (·.xs)) es) ∧ (w.grownBy wq (some m)) ∧ (Blk wq b1 [ptr wb 0]) ∧ (Blk wq b2 (((wt : Int) :: S0).map vint)) ∧ (Blk wq b8 [vint (rfeA nd pl (L.map (·.xs)) (S.map (·.xs)) k wt S0)]) ∧ (Blk wq bx13 [ptr wb 0]) ∧ (Blk wq by13 (((wt : Int) :: S0).map vint)) ∧ (Lp wq .ready none) ∧ (wq.heap[db]? = some (.deferred (some [])))) (fun wq => False) wl hok hS8 hSb hwl hSn hSon hJ0 (fun k w1 hJ => by
       obtain ⟨hM, hG0, hb1, hb2, hb8, hx13, hy13, hlp, hdb⟩ := hJ
       exact ⟨hx13, hy13, hk.gm hM0 hG0⟩) hJs (fun k w1 hkS hJ hno => by
       obtain ⟨hM, hG0, hb1, hb2, hb8, hx13, hy13, hlp, hdb⟩ := hJ
       exact ⟨hM, hG0, hb1, hb2, (by rw [← rfe_no hkS hno]; exact hb8), hx13, hy13, hlp, hdb⟩) ?_).mono ?_
   · intro k w1 hkS hJ hN hnx
     obtain ⟨hM, hG0, hb1, hb2, hb8, hx13, hy13, hlp, hdb⟩ := hJ
     refine yieldAt_of ((hLp _ _ _).1 hlp) rfl (by rfl) (by kernel_rfl) ?_
     have hsz : w.heap.size ≤ w1.heap.size := by omega
     have hszr : w1.heap.size ≤ w1.heap.size := Nat.le_refl _
     obtain ⟨es1, ck1, hM, hMemo⟩ := hM
     have hSk := hSon _ (getD_lt (l := S) (d := sv0) hkS)
     have hfb := rfe_bnd nd pl (L.map (·.xs)) (S.map (·.xs)) (wt + 1) (aftL pl wt S0 (S.getD k sv0).xs).1
     refine r_forget [(2, ptr b1 0), (5, ptr b8 0), (32, .slice ((S.getD k sv0).a) ((S.getD k sv0).xs.length) ((S.getD k sv0).c)), (33, .agg ⟨(((wt : Int) + 1 : Int) :: ((aftL pl wt S0 (S.getD k sv0).xs).1)).map vint⟩)] ⟨rfl, rfl, rfl, rfl, trivial⟩ (fun e14 => (r_seq (r_region' (l_q (qas rfl rfl) (l_nil (r_region' (l_o (o_alloc Try.zeroValue61 rfl rfl ?_))))))))
     intro b15 w15 hzl15 hzr15 _ hb15 hE15
     have hne_wb_b15 : wb ≠ b15 := by have := hk.blk.lt; omega
     have hne_b1_b15 : b1 ≠ b15 := by have := hb1.lt; omega
     have hne_b2_b15 : b2 ≠ b15 := by have := hb2.lt; omega
     have hne_b8_b15 : b8 ≠ b15 := by have := hb8.lt; omega
     have hne_bx13_b15 : bx13 ≠ b15 := by have := hx13.lt; omega
     have hne_by13_b15 : by13 ≠ b15 := by have := hy13.lt; omega
     have hbs_b15 : w.heap.size ≤ b15 := Nat.le_trans hsz hzl15
     replace hM := hM.keep (hE15.block m hM.lt (by simp))
     replace hG0 := grown_trans hG0 (gm_ext hE15)
     replace hb1 := hb1.ext hE15
     replace hb2 := hb2.ext hE15
     replace hb8 := hb8.ext hE15
     replace hx13 := hx13.ext hE15
     replace hy13 := hy13.ext hE15
     replace hlp := hLk _ _ _ _ hlp (hE15.block l (((hLp _ _ _).1 hlp).lt) (by simp))
     replace hdb := (hE15.block db (heap_lt hdb) (by simp)).trans hdb
     replace hszr := Nat.le_trans hszr hE15.size
     replace hsz := Nat.le_trans hsz hE15.size
     refine l_o (o_store_all (cs' := (((wt : Int) + 1 : Int) :: ((aftL pl wt S0 (S.getD k sv0).xs).1)).map vint) Try.sizeOf61 rfl rfl hb15 (rfl) (by simp only [List.length_map, List.length_cons, (show ((aftL pl wt S0 (S.getD k sv0).xs).1).length = 8 from (by rw [aft_len]; exact hS8))]) (all_one_map _ _ (fun _ => rfl)) rfl ?_)
     intro w16 hz16 hb15 hG16
     replace hsz : w.heap.size ≤ w16.heap.size := by rw [hz16]; exact hsz
     replace hM := hM.keep (hG16.block m hM.lt (by simp; omega))
     replace hG0 := gm_upd hG0 hG16 (by omega)
     replace hb1 := hb1.upd hG16 (by omega)
     replace hb2 := hb2.upd hG16 (by omega)
     replace hb8 := hb8.upd hG16 (by omega)
     replace hx13 := hx13.upd hG16 (by omega)
     replace hy13 := hy13.upd hG16 (by omega)
     replace hlp := hLk _ _ _ _ hlp (hG16.block l (((hLp _ _ _).1 hlp).lt) (by simp; omega))
     replace hdb := (hG16.block db (heap_lt hdb) (by simp; omega)).trans hdb
     replace hszr := Nat.le_trans hszr hG16.size
     refine l_nil (r_begin rfl ((hLp _ _ _).1 hlp) ?_)
     intro wb17 hzb17 hgb17 hl17
     replace hsz : w.heap.size ≤ wb17.heap.size := by rw [hzb17]; exact hsz
     replace hM := hM.keep (hgb17.block m hM.lt (by simp; omega))
     replace hG0 := gm_upd hG0 hgb17 (by omega)
     replace hb1 := hb1.upd hgb17 (by omega)
     replace hb2 := hb2.upd hgb17 (by omega)
     replace hb8 := hb8.upd hgb17 (by omega)
     replace hx13 := hx13.upd hgb17 (by omega)
     replace hy13 := hy13.upd hgb17 (by omega)
     replace hdb := (hgb17.block db (heap_lt hdb) (by simp; omega)).trans hdb
     replace hszr := Nat.le_trans hszr hgb17.size
     replace hb15 := hb15.upd hgb17 (by omega)
     have hlp := (hLp _ _ _).2 hl17
     refine r_block (r_draw (gm_refl m) (gm_trans m) [0, 1, 2, 3, 4, 5, 6, 7, 8, 9] [5, 7, 8, 9, 1009] 12 (by kernel_rfl) (by kernel_rfl) ?_)
     intro w18 _ hE18
     replace hM := hM.keep (hE18.block m hM.lt (by simp))
     replace hG0 := grown_trans hG0 (gm_ext hE18)
     replace hb1 := hb1.ext hE18
     replace hb2 := hb2.ext hE18
     replace hb8 := hb8.ext hE18
     replace hx13 := hx13.ext hE18
     replace hy13 := hy13.ext hE18
     replace hdb := (hE18.block db (heap_lt hdb) (by simp)).trans hdb
     replace hszr := Nat.le_trans hszr hE18.size
     replace hb15 := hb15.ext hE18
     replace hlp := hLk _ _ _ _ hlp (hE18.block l (((hLp _ _ _).1 hlp).lt) (by simp))
     replace hsz := Nat.le_trans hsz hE18.size
     refine m_q rfl rfl (fun w' hC' => q_load Try.isAgg3 rfl (((hb8.step hC' (by simp; omega)).has (o := 0) rfl)) rfl) (m_q rfl rfl (fun w' hC' => qms rfl rfl) (m_q rfl rfl (fun w' hC' => q_len rfl Try.underlying26 rfl rfl) (m_q rfl rfl (fun w' hC' => q_load Try.isAgg51 rfl (((hb1.step hC' (by simp; omega)).has (o := 0) rfl)) rfl) (m_q rfl rfl (fun w' hC' => q_load_agg (n := 9) Try.isAgg61 Try.sizeOf61 rfl (((hb15.step hC' (by simp; omega)).cells0)) (by simp only [List.length_map, List.length_cons, (show ((aftL pl wt S0 (S.getD k sv0).xs).1).length = 8 from (by rw [aft_len]; exact hS8))]) rfl) (m_o rfl rfl (o_call Try.call17 rfl (ih (wt + 1) (aftL pl wt S0 (S.getD k sv0).xs).1 _ _ _ (by omega) (by omega) (by rw [aft_len]; exact hS8) (aft_b hSb (by omega) (fun x hx => (hpp x hx).2.2)) (hk.gm hM0 hG0) hM hMemo) rfl ?_))))))
     rintro _ w19 ⟨rfl, esc19, ckc19, hMc19, hMm19, hGc19⟩
     refine ⟨hGc19, ?_⟩
     replace hsz : w.heap.size ≤ w19.heap.size := Nat.le_trans hsz hGc19.size
     replace hG0 := gm_upd hG0 hGc19 (by omega)
     replace hb1 := hb1.upd hGc19 (by omega)
     replace hb2 := hb2.upd hGc19 (by omega)
     replace hb8 := hb8.upd hGc19 (by omega)
     replace hx13 := hx13.upd hGc19 (by omega)
     replace hy13 := hy13.upd hGc19 (by omega)
     replace hdb := (hGc19.block db (heap_lt hdb) (by simp; omega)).trans hdb
     replace hszr := Nat.le_trans hszr hGc19.size
     replace hb15 := hb15.upd hGc19 (by omega)
     replace hlp := hLk _ _ _ _ hlp (hGc19.block l (((hLp _ _ _).1 hlp).lt) (by simp; omega))
     have hM := hMc19
     have hMemo := hMm19
     refine m_q rfl rfl (fun w' hC' => q_add rfl rfl (by omega) rfl) (m_o rfl rfl (o_buildSlice (el := 3) (cs := [vint (rfeA nd pl (L.map (·.xs)) (S.map (·.xs)) k wt S0), vint (((S.getD k sv0).xs.length : Int) + (rfe nd pl (L.map (·.xs)) (S.map (·.xs)) (wt + 1) ((aftL pl wt S0 (S.getD k sv0).xs).1)))]) Try.underlying26 el3 (by decide) (by kernel_rfl) rfl (by decide) rfl ?_))
     intro b20 w20 hzl20 hzr20 _ hb20 hE20 ho20
     refine ⟨(gm_ext hE20), ?_⟩
     have hne_wb_b20 : wb ≠ b20 := by have := hk.blk.lt; omega
     have hne_b1_b20 : b1 ≠ b20 := by have := hb1.lt; omega
     have hne_b2_b20 : b2 ≠ b20 := by have := hb2.lt; omega
     have hne_b8_b20 : b8 ≠ b20 := by have := hb8.lt; omega
     have hne_bx13_b20 : bx13 ≠ b20 := by have := hx13.lt; omega
     have hne_by13_b20 : by13 ≠ b20 := by have := hy13.lt; omega
     have hne_b15_b20 : b15 ≠ b20 := by have := hb15.lt; omega
     have hbs_b20 : w.heap.size ≤ b20 := Nat.le_trans hsz hzl20
     replace hG0 := grown_trans hG0 (gm_ext hE20)
     replace hb1 := hb1.ext hE20
     replace hb2 := hb2.ext hE20
     replace hb8 := hb8.ext hE20
     replace hx13 := hx13.ext hE20
     replace hy13 := hy13.ext hE20
     replace hdb := (hE20.block db (heap_lt hdb) (by simp)).trans hdb
     replace hszr := Nat.le_trans hszr hE20.size
     replace hlp := hLk _ _ _ _ hlp (hE20.block l (((hLp _ _ _).1 hlp).lt) (by simp))
     replace hM := hM.keep (hE20.block m hM.lt (by simp))
     replace hsz := Nat.le_trans hsz hE20.size
     refine m_o rfl rfl (o_call Try.call43 rfl (rminimum_ret _ _ [rfeA nd pl (L.map (·.xs)) (S.map (·.xs)) k wt S0, ((S.getD k sv0).xs.length : Int) + (rfe nd pl (L.map (·.xs)) (S.map (·.xs)) (wt + 1) ((aftL pl wt S0 (S.getD k sv0).xs).1))] _ (Row.of_owns ho20) (by first | omega | simp) (by first | omega | simp)) rfl ?_)
     rintro _ w21 ⟨rfl, hE21⟩
     refine ⟨(gm_ext hE21), ?_⟩
     replace hG0 := grown_trans hG0 (gm_ext hE21)
     replace hb1 := hb1.ext hE21
     replace hb2 := hb2.ext hE21
     replace hb8 := hb8.ext hE21
     replace hx13 := hx13.ext hE21
     replace hy13 := hy13.ext hE21
     replace hdb := (hE21.block db (heap_lt hdb) (by simp)).trans hdb
     replace hszr := Nat.le_trans hszr hE21.size
     replace hlp := hLk _ _ _ _ hlp (hE21.block l (((hLp _ _ _).1 hlp).lt) (by simp))
     replace hM := hM.keep (hE21.block m hM.lt (by simp))
     replace hsz := Nat.le_trans hsz hE21.size
     refine m_last rfl rfl rfl (o_store (vs := [vint (minOf [rfeA nd pl (L.map (·.xs)) (S.map (·.xs)) k wt S0, ((S.getD k sv0).xs.length : Int) + (rfe nd pl (L.map (·.xs)) (S.map (·.xs)) (wt + 1) ((aftL pl wt S0 (S.getD k sv0).xs).1))])]) (cs' := [vint (minOf [rfeA nd pl (L.map (·.xs)) (S.map (·.xs)) k wt S0, ((S.getD k sv0).xs.length : Int) + (rfe nd pl (L.map (·.xs)) (S.map (·.xs)) (wt + 1) ((aftL pl wt S0 (S.getD k sv0).xs).1))])]) Try.sizeOf3 rfl rfl rfl rfl hb8 (Nat.le_of_ble_eq_true rfl) rfl rfl ?_)
     intro w22 hz22 hb8 hG22
     replace hsz : w.heap.size ≤ w22.heap.size := by rw [hz22]; exact hsz
     replace hG0 := gm_upd hG0 hG22 (by omega)
     replace hb1 := hb1.upd hG22 (by omega)
     replace hb2 := hb2.upd hG22 (by omega)
     replace hx13 := hx13.upd hG22 (by omega)
     replace hy13 := hy13.upd hG22 (by omega)
     replace hdb := (hG22.block db (heap_lt hdb) (by simp; omega)).trans hdb
     replace hszr := Nat.le_trans hszr hG22.size
     replace hlp := hLk _ _ _ _ hlp (hG22.block l (((hLp _ _ _).1 hlp).lt) (by simp; omega))
     replace hM := hM.keep (hG22.block m hM.lt (by simp; omega))
     refine m_nil (r_forget [] trivial (fun e23 => (r_inBlock ?_)))
     have hval : minOf [rfeA nd pl (L.map (·.xs)) (S.map (·.xs)) k wt S0, ((S.getD k sv0).xs.length : Int) + (rfe nd pl (L.map (·.xs)) (S.map (·.xs)) (wt + 1) ((aftL pl wt S0 (S.getD k sv0).xs).1))] = rfeA nd pl (L.map (·.xs)) (S.map (·.xs)) (k + 1) wt S0 := by rw [min_two]; exact rfe_yes hwl hkS hnx
     rw [hval] at hb8
     refine r_round_end rfl ((hLp _ _ _).1 hlp) ?_
     intro we24 hze24 hge24 hl24
     replace hsz : w.heap.size ≤ we24.heap.size := by rw [hze24]; exact hsz
     replace hG0 := gm_upd hG0 hge24 (by omega)
     replace hb1 := hb1.upd hge24 (by omega)
     replace hb2 := hb2.upd hge24 (by omega)
     replace hb8 := hb8.upd hge24 (by omega)
     replace hx13 := hx13.upd hge24 (by omega)
     replace hy13 := hy13.upd hge24 (by omega)
     replace hdb := (hge24.block db (heap_lt hdb) (by simp; omega)).trans hdb
     replace hszr := Nat.le_trans hszr hge24.size
     replace hM := hM.keep (hge24.block m hM.lt (by simp; omega))
     have hlp := (hLp _ _ _).2 hl24
     exact ⟨true, rfl, fun _ => ⟨⟨_, _, hM, hMemo⟩, hG0, hb1, hb2, hb8, hx13, hy13, hlp, hdb⟩, (fun h => by cases h), hszr⟩
   · rintro _ w2 (hJ | hJ)
     ·
      obtain ⟨hM, hG0, hb1, hb2, hb8, hx13, hy13, hlp, hdb⟩ := hJ
      obtain ⟨es1, ck1, hM, hMemo⟩ := hM
      rw [rfe_all hwl] at hb8
      refine ⟨.ready, none, (by decide), hlp, rfl, ?_⟩
      intro w3 hz3 hg3
      have hsz2 : w.heap.size ≤ w2.heap.size := by have := hG0.size; omega
      have hsz : w.heap.size ≤ w3.heap.size := by rw [hz3]; exact hsz2
      replace hM := hM.keep (hg3.block m hM.lt (by simp; omega))
      replace hG0 := gm_upd hG0 hg3 (by omega)
      replace hb1 := hb1.upd hg3 (by omega)
      replace hb2 := hb2.upd hg3 (by omega)
      replace hb8 := hb8.upd hg3 (by omega)
      replace hdb := (hg3.block db (heap_lt hdb) (by simp; omega)).trans hdb
      refine r_inBlock (r_seq (r_draw ext_refl' ext_trans' [0, 1, 2, 3, 4, 5, 6] [6, 1006] 9 (by kernel_rfl) (by kernel_rfl) ?_))
      intro w25 _ hE25
      replace hM := hM.keep (hE25.block m hM.lt (by simp))
      replace hG0 := grown_trans hG0 (gm_ext hE25)
      replace hb1 := hb1.ext hE25
      replace hb2 := hb2.ext hE25
      replace hb8 := hb8.ext hE25
      replace hdb := (hE25.block db (heap_lt hdb) (by simp)).trans hdb
      replace hsz := Nat.le_trans hsz hE25.size
      refine m_q rfl rfl (fun w' hC' => q_load Try.isAgg51 rfl (((hb1.has (o := 0) rfl).ext hC')) rfl) (m_q rfl rfl (fun w' hC' => q_nilCheck rfl rfl) (m_q rfl rfl (fun w' hC' => q_fieldAddr (o' := 4) rfl fld90_2 rfl) (m_q rfl rfl (fun w' hC' => q_load Try.isAgg88 rfl ((((hk.blk.gm hM0 hG0).has (o := 4) rfl).ext hC')) rfl) (m_q rfl rfl (fun w' hC' => q_load_agg (n := 9) Try.isAgg61 Try.sizeOf61 rfl (((hb2.cells0).ext hC')) (by simp only [List.length_map, List.length_cons, (show S0.length = 8 from hS8)]) rfl) (m_q rfl rfl (fun w' hC' => q_load Try.isAgg3 rfl (((hb8.has (o := 0) rfl).ext hC')) rfl) (m_last rfl rfl rfl (o_mapUpdate Try.underlying88 Try.underlying61 rfl rfl rfl hM (fun em w => spotTy.key hS8 w) (asks_spot hMemo hS8) (sameBits_ints _) rfl ?_)))))))
      intro es26 ck26 w26 hz26 hM26 hG26 hin26
      replace hsz : w.heap.size ≤ w26.heap.size := by rw [hz26]; exact hsz
      replace hG0 := gm_upd hG0 hG26 (by omega)
      replace hb8 := hb8.upd hG26 (by omega)
      replace hdb := (hG26.block db (heap_lt hdb) (by simp; omega)).trans hdb
      have hM := hM26
      replace hMemo := spot_put hS8 hMemo hin26 rfl
      refine m_nil (r_forget [(5, .pointer _)] ⟨rfl, trivial⟩ (fun e27 => (r_seq (r_region' (l_q (q_load Try.isAgg3 rfl ((hb8.has (o := 0) rfl)) rfl) (l_q (qai rfl rfl) (l_nil ?_)))))))
      obtain ⟨wf28, hUf, hzf28, hGf28⟩ := unw_one hdb
      replace hsz : w.heap.size ≤ wf28.heap.size := by rw [hzf28]; exact hsz
      replace hG0 := gm_upd hG0 hGf28 (by omega)
      replace hM := hM.keep (hGf28.block m hM.lt (by simp; omega))
      refine r_ret_ (vs := [.int _ _]) rfl Try.func17 rfl (hUf) ⟨rfl, trivial⟩ ?_
      exact ⟨rfl, _, _, hM, hMemo, hG0⟩
     ·
      exact hJ.elim
end Go.Proofs.Ytbikicakdkbcgaa
