/- Contracts. -/
import Derived.Test.YtbikicakdkbcgacGreatH8
set_option linter.unusedVariables false
set_option linter.unusedSimpArgs false
namespace Go.Proofs.YtbikicakdkbcgacGreat
open Go Go.RowKit Go.Gv Go.Fl

/-! ### The earliest hours -/
theorem gd_set {H : List Int} {i j : Nat} {x : Int} (hi : i < H.length) : (H.set i x).getD j 0 = if i = j then x else H.getD j 0 := by
  rw [List.getD_eq_getElem?_getD, List.getElem?_set]
  split
  · rename_i h; subst h; simp [hi]
  · rw [List.getD_eq_getElem?_getD]
def z6 : List Int := [0, 0, 0, 0, 0, 0]
structure EH (fr st0 e : Nat) (H : List Int) : Prop where
  len : H.length = 6
  at0 : H.getD fr 0 = (st0 : Int)
  oth : ∀ b, b < 6 → b ≠ fr → (st0 : Int) + 1 ≤ H.getD b 0 ∧ H.getD b 0 ≤ (e : Int) + 1
def LeL (H H0 : List Int) : Prop := ∀ b, b < 6 → H.getD b 0 ≤ H0.getD b 0
def DN (sl : List S4) (rl : List WL) (kl : List KV) (ul : List S3) (fr ki st0 : Nat) (H : List Int) : Prop := ∀ b, b < sl.length → canF sl rl kl ul fr b ki st0 = true → H.getD b 0 ≤ (st0 : Int) + 1
def sumN (H : List Int) : Nat := (H.getD 0 0 + H.getD 1 0 + H.getD 2 0 + H.getD 3 0 + H.getD 4 0 + H.getD 5 0).toNat
section
variable {fr st0 e ki : Nat} {H H0 H1 : List Int} {sl : List S4} {rl : List WL} {kl : List KV} {ul : List S3}
theorem eh_init (hl : H.length = 6) (hv : ∀ j, j < 6 → H.getD j 0 = (e : Int) + 1) (hf : fr < 6) (hs : st0 ≤ e) : EH fr st0 e (H.set fr (st0 : Int)) :=
  ⟨by rw [List.length_set]; exact hl, by rw [gd_set (by omega), if_pos rfl], fun b hb hne => by rw [gd_set (by omega), if_neg (fun h => hne h.symm), hv b hb]; omega⟩
theorem EH.rng (h : EH fr st0 e H) (hs : st0 ≤ e) : ∀ b, b < 6 → (st0 : Int) ≤ H.getD b 0 ∧ H.getD b 0 ≤ (e : Int) + 1 := fun b hb => by
  by_cases hf : b = fr
  · rw [hf, h.at0]; omega
  · have := h.oth b hb hf; omega
theorem EH.put {b hr : Nat} (h : EH fr st0 e H) (hb : b < 6) (hr0 : st0 ≤ hr) : EH fr st0 e (H.set b (minOf [H.getD b 0, (hr : Int) + 1])) := by
  have hl := h.len
  refine ⟨by rw [List.length_set]; exact hl, ?_, fun c hc hne => ?_⟩
  · rw [gd_set (by omega), min_two]
    split
    · rename_i h1; rw [h1, h.at0]; omega
    · exact h.at0
  · rw [gd_set (by omega), min_two]
    have := h.oth c hc hne
    split
    · rename_i h1; subst h1; omega
    · exact this
theorem LeL.put {b : Nat} {x : Int} (h : LeL H H0) (hl : H.length = 6) (hb : b < 6) : LeL (H.set b (minOf [H.getD b 0, x])) H0 := fun c hc => by
  rw [gd_set (by omega), min_two]
  have := h c hc
  split
  · rename_i h1; subst h1; omega
  · exact this
theorem LeL.trans (h : LeL H H0) (h' : LeL H0 H1) : LeL H H1 := fun b hb => Int.le_trans (h b hb) (h' b hb)
theorem pd_put {F : Nat} {x : Int} {k : Nat} (h : ∀ c, c < k → F.testBit c = true → H.getD c 0 ≤ x) (hl : H.length = 6) (hk : k < 6) : ∀ c, c < k + 1 → F.testBit c = true → (H.set k (minOf [H.getD k 0, x])).getD c 0 ≤ x := fun c hc hb => by
  rw [gd_set (by omega), min_two]
  split
  · omega
  · exact h c (by omega) hb
theorem dn_mono (h6 : sl.length ≤ 6) (h : LeL H H0) (hd : DN sl rl kl ul fr ki st0 H0) : DN sl rl kl ul fr ki st0 H := fun b hb hc => Int.le_trans (h b (by omega)) (hd b hb hc)
theorem dn_new (h6 : sl.length ≤ 6) (h : ∀ b, b < 7 → (flF sl rl kl ul fr ki st0).testBit b = true → H.getD b 0 ≤ (st0 : Int) + 1) : DN sl rl kl ul fr ki st0 H := fun b hb hc => h b (by omega) (by rw [flF_bit, hc, decide_eq_true hb]; rfl)
theorem list6 (h : H.length = 6) (h1 : H1.length = 6) (he : ∀ b, b < 6 → H.getD b 0 = H1.getD b 0) : H = H1 := by
  refine List.ext_getElem (h.trans h1.symm) (fun b hb hb1 => ?_)
  have := he b (by omega)
  rw [List.getD_eq_getElem?_getD, List.getD_eq_getElem?_getD, List.getElem?_eq_getElem hb, List.getElem?_eq_getElem hb1] at this
  exact this
theorem sum_lt (h : EH fr st0 e H) (h1 : EH fr st0 e H1) (hs : st0 ≤ e) (hle : LeL H1 H) (hne : ¬ H1 = H) : sumN H1 < sumN H := by
  have r1 := h1.rng hs
  have a0 := hle 0 (by decide); have a1 := hle 1 (by decide); have a2 := hle 2 (by decide); have a3 := hle 3 (by decide); have a4 := hle 4 (by decide); have a5 := hle 5 (by decide)
  have b0 := r1 0 (by decide); have b1 := r1 1 (by decide); have b2 := r1 2 (by decide); have b3 := r1 3 (by decide); have b4 := r1 4 (by decide); have b5 := r1 5 (by decide)
  have hx : ¬ (H1.getD 0 0 = H.getD 0 0 ∧ H1.getD 1 0 = H.getD 1 0 ∧ H1.getD 2 0 = H.getD 2 0 ∧ H1.getD 3 0 = H.getD 3 0 ∧ H1.getD 4 0 = H.getD 4 0 ∧ H1.getD 5 0 = H.getD 5 0) := fun hx => hne (list6 h1.len h.len (fun b hb => by
    obtain ⟨x0, x1, x2, x3, x4, x5⟩ := hx
    match b, hb with
    | 0, _ => exact x0
    | 1, _ => exact x1
    | 2, _ => exact x2
    | 3, _ => exact x3
    | 4, _ => exact x4
    | 5, _ => exact x5))
  unfold sumN
  omega
end
theorem Marks.belowN {B N : Nat} {D : List Deferred} {w0 w w' : World} (h0 : Marks B D w0) (h : Marks B D w) (hN : w0.heap.size ≤ N) (hB : Below N w w') : Marks B D w' := by
  obtain ⟨ds0, e0, _, a0⟩ := h0
  obtain ⟨ds, e1, h2, h3⟩ := h
  refine ⟨ds, e1, h2, fun d hd => ⟨(h3 d hd).1, ?_⟩⟩
  have hm : marked d ∈ ds0.map marked := by rw [← e0, e1]; exact List.mem_map.2 ⟨d, hd, rfl⟩
  obtain ⟨d0, hd0, he⟩ := List.mem_map.1 hm
  have he2 : d0 = d := by
    have := congrArg (fun x : Deferred => x.target) he
    simpa [marked] using this
  have hl := heap_lt (a0 d0 hd0).2
  exact (hB.block d (by omega)).trans (h3 d hd).2
theorem gm_unw {a b c : World} {m B : Nat} (h : a.grownBy b (some m)) (hF : FrS (fun k => B ≤ k ∧ b.heap[k]? = some (.deferred (some []))) b c) (hB : a.heap.size ≤ B) : a.grownBy c (some m) :=
  ⟨hF.os.trans h.os, hF.tape.trans h.tape, hF.output.trans h.output, Nat.le_trans h.size hF.size, fun k hk hn => (hF.keep k (Nat.lt_of_lt_of_le hk h.size) (fun hx => by have := hx.1; omega)).trans (h.block k hk hn)⟩


set_option maxHeartbeats 2000000 in
theorem earliest_ret (sa : Option Addr) (sc : Nat) (sl : List S4) (ra : Option Addr) (rc : Nat) (rl : List WL) (ka : Option Addr) (kc : Nat) (kl : List KV) (ua : Option Addr) (uc : Nat) (ul : List S3) (wb : Nat) (ga : Option Addr) (gc : Nat) (ms : List Nat) (m clock : Nat) (es : List MapEntry) (fr st0 ki : Nat) (w : World) (hok : OkL sl rl kl ul) (hk : RwH w sa sc sl ra rc rl ka kc kl ua uc ul wb ga gc ms) (hM : MapAt w m es clock) (hMemo : MemoF sl rl kl ul ki es) (hgf : fr < sl.length) (hst : st0 < ul.length) (hgk : ki < kl.length) (hml : ms.length = kl.length) (hm : ms.getD ki 0 = m) : Ret Tryz.prog 27 [ptr wb 0, vint (fr : Int), vint (st0 : Int), vint (ki : Int), vint (-1)] w (fun v w' => ∃ H, v = .agg ⟨List.map vint H⟩ ∧ EH fr st0 ul.length H ∧ DN sl rl kl ul fr ki st0 H ∧ w.grownBy w' (some m)) := by
 have hs6 := hok.s6
 have hr6 := hok.r6
 have hk4 := hok.k4
 have hu12 := hok.u12
 have hs0 := hok.s0
 have hk0 := hok.k0
 have hu0 := hok.u0
 have hwbl := hk.blk.lt
 have hM0 := hM
 have hG0 := gm_refl m w
 have hmN := hM.lt
 have hsz : w.heap.size ≤ w.heap.size := Nat.le_refl _
 refine ret_of_runs (args := [_, _, _, _, _]) Tryz.func27 rfl (Nat.le_of_ble_eq_true rfl) (by kernel_rfl) (r_seq (r_region' (l_o (o_box rfl rfl rfl ?_))))
 intro b1 w1 hzl1 hzr1 _ hb1 hE1
 have hne_wb_b1 : wb ≠ b1 := by have := hk.blk.lt; omega
 have hbs_b1 : w.heap.size ≤ b1 := Nat.le_trans hsz hzl1
 replace hM := hM.keep (hE1.block m hM.lt (by simp))
 replace hG0 := grown_trans hG0 (gm_ext hE1)
 replace hsz := Nat.le_trans hsz hE1.size
 refine l_o (o_alloc Tryz.zeroValue91 rfl rfl ?_)
 intro b2 w2 hzl2 hzr2 _ hb2 hE2
 have hne_wb_b2 : wb ≠ b2 := by have := hk.blk.lt; omega
 have hne_b1_b2 : b1 ≠ b2 := by have := hb1.lt; omega
 have hbs_b2 : w.heap.size ≤ b2 := Nat.le_trans hsz hzl2
 replace hM := hM.keep (hE2.block m hM.lt (by simp))
 replace hG0 := grown_trans hG0 (gm_ext hE2)
 replace hb1 := hb1.ext hE2
 replace hsz := Nat.le_trans hsz hE2.size
 refine l_nil (r_seq (r_region' (l_o (o_alloc Tryz.zeroValue91 rfl rfl ?_))))
 intro b3 w3 hzl3 hzr3 _ hb3 hE3
 have hne_wb_b3 : wb ≠ b3 := by have := hk.blk.lt; omega
 have hne_b1_b3 : b1 ≠ b3 := by have := hb1.lt; omega
 have hne_b2_b3 : b2 ≠ b3 := by have := hb2.lt; omega
 have hbs_b3 : w.heap.size ≤ b3 := Nat.le_trans hsz hzl3
 replace hM := hM.keep (hE3.block m hM.lt (by simp))
 replace hG0 := grown_trans hG0 (gm_ext hE3)
 replace hb1 := hb1.ext hE3
 replace hb2 := hb2.ext hE3
 replace hsz := Nat.le_trans hsz hE3.size
 refine l_nil (r_seq (r_seq ?_))
 have hT : Blk w3 b3 (z6.map vint) := hb3
 have hz6 : z6.length = 6 := rfl
 refine r_region' (l_q (qmi rfl rfl) (l_nil (r_block (r_rounds (α := Nat × (List Int)) (fun ⟨k, HA⟩ e wl => Knows e [(0, ptr wb 0), (1, vint (fr : Int)), (2, vint (st0 : Int)), (3, vint (ki : Int)), (9, ptr b1 0), (10, ptr b2 0), (11, ptr b3 0), (17, vint (k : Int))] ∧ (k ≤ 6) ∧ (HA.length = 6) ∧ (∀ j, j < k → HA.getD j 0 = (ul.length : Int) + 1) ∧ (Blk wl b3 (HA.map vint)) ∧ (MapAt wl m es clock) ∧ (w.grownBy wl (some m)) ∧ (Blk wl b1 [vint (-1)]) ∧ (Blk wl b2 [vint 0, vint 0, vint 0, vint 0, vint 0, vint 0]) ∧ (w.heap.size ≤ wl.heap.size)) (fun ⟨k, HA⟩ => 6 - k) (0, z6) ?_ ?_))))
 ·
  exact ⟨⟨rfl, rfl, rfl, rfl, rfl, rfl, rfl, rfl, trivial⟩, (Nat.zero_le _), rfl, (fun j hj => absurd hj (Nat.not_lt_zero _)), hT, hM, hG0, hb1, hb2, hsz⟩
 ·
  rintro ⟨k, HA⟩ el4 wl4 ⟨hkn, hk2, hlA, hvA, hT, hM, hG0, hb1, hb2, hsz⟩ ih4
  obtain ⟨e4, rfl⟩ := knows_env hkn
  refine r_seq (r_region' (l_q (q_lss rfl rfl rfl) (l_nil (r_seq (r_cond rfl (fun hc5 => ?_) (fun hc5 => ?_))))))
  ·
   replace hc5 := dt hc5
   have hk6 : k < 6 := by omega
   refine r_skip (r_seq (r_block (r_seq (r_region' (l_q (qmi rfl rfl) (l_q (qai rfl rfl) (l_nil (r_region' (l_q (qmi rfl rfl) (l_q (q_move (v := .pointer _) rfl rfl) (l_o (o_call Tryz.call28 rfl (rend_ret sa sc sl ra rc rl ka kc kl ua uc ul wb ga gc ms _ (hk.gm hM0 hG0)) rfl ?_))))))))))))
   rintro _ w6 ⟨rfl, rfl⟩
   refine l_q (q_add rfl rfl (by omega) rfl) (l_q ((q_indexAddr_arr1 Tryz.underlying91 Tryz.sizeOf3 rfl rfl (by omega) rfl).cast (ptr0 _ _)) (l_o (o_store1 (v := vint ((ul.length : Int) + 1)) (o := k) Tryz.sizeOf3 rfl rfl rfl rfl hT (by rw [List.length_map]; (try simp only [List.length_set]); omega) rfl ?_)))
   intro w7 hz7 hT hG7
   rw [imap_set] at hT
   replace hsz : w.heap.size ≤ w7.heap.size := by rw [hz7]; exact hsz
   replace hM := hM.keep (hG7.block m hM.lt (by simp; omega))
   replace hG0 := gm_upd hG0 hG7 (by omega)
   replace hb1 := hb1.upd hG7 (by first | assumption | (apply Ne.symm; assumption) | omega)
   replace hb2 := hb2.upd hG7 (by first | assumption | (apply Ne.symm; assumption) | omega)
   refine l_nil (r_inBlock (r_region' (l_q (q_add rfl rfl (by omega) rfl) (l_q (qmi rfl rfl) (l_nil ?_)))))
   exact ih4 (k + 1, (HA).set k ((ul.length : Int) + 1)) _ _ ⟨⟨rfl, rfl, rfl, rfl, rfl, rfl, rfl, (vint_eq (by omega)), trivial⟩, (by omega), (by rw [List.length_set]; exact hlA), (fun j hj => by rw [gd_set (by omega)]; split; exact rfl; exact hvA j (by omega)), hT, hM, hG0, hb1, hb2, hsz⟩ (by first | omega | (dsimp only; omega))
  ·
   replace hc5 := dlt hc5
   refine r_exit rfl (r_seq (r_region' (l_q (qmi rfl rfl) (l_q (qmi rfl rfl) (l_q ((q_indexAddr_arr1 Tryz.underlying91 Tryz.sizeOf3 rfl rfl (by omega) rfl).cast (ptr0 _ _)) (l_o (o_store1 (v := vint (st0 : Int)) (o := fr) Tryz.sizeOf3 rfl rfl rfl rfl hT (by rw [List.length_map]; (try simp only [List.length_set]); omega) rfl ?_)))))))
   intro w8 hz8 hT hG8
   rw [imap_set] at hT
   replace hsz : w.heap.size ≤ w8.heap.size := by rw [hz8]; exact hsz
   replace hM := hM.keep (hG8.block m hM.lt (by simp; omega))
   replace hG0 := gm_upd hG0 hG8 (by omega)
   replace hb1 := hb1.upd hG8 (by first | assumption | (apply Ne.symm; assumption) | omega)
   replace hb2 := hb2.upd hG8 (by first | assumption | (apply Ne.symm; assumption) | omega)
   refine l_nil (r_block ?_)
   have hEi : EH fr st0 ul.length (HA.set fr (st0 : Int)) := eh_init hlA (fun j hj => hvA j (by omega)) (by omega) (by omega)
   have hmk := Marks.nil w.heap.size w8
   refine r_roundsD (α := (List Int)) (fun H e D wl => Knows e [(0, ptr wb 0), (3, vint (ki : Int)), (9, ptr b1 0), (10, ptr b2 0), (11, ptr b3 0)] ∧ (EH fr st0 ul.length H) ∧ (Blk wl b3 (H.map vint)) ∧ (∃ es2 ck2, MapAt wl m es2 ck2 ∧ MemoF sl rl kl ul ki es2) ∧ (Marks w.heap.size D wl) ∧ (w.grownBy wl (some m)) ∧ (Blk wl b1 [vint (-1)]) ∧ (Blk wl b2 [vint 0, vint 0, vint 0, vint 0, vint 0, vint 0]) ∧ (w.heap.size ≤ wl.heap.size)) (fun H => sumN H) (HA.set fr (st0 : Int)) ?_ ?_
   ·
    exact ⟨⟨rfl, rfl, rfl, rfl, rfl, trivial⟩, hEi, hT, ⟨_, _, hM, hMemo⟩, hmk, hG0, hb1, hb2, hsz⟩
   ·
    rintro H el9 D wl9 ⟨hkn, hE, hT, hM, hmk, hG0, hb1, hb2, hsz⟩ ih9
    obtain ⟨e9, rfl⟩ := knows_env hkn
    have hlH := hE.len
    obtain ⟨es2, ck2, hM, hMemo⟩ := hM
    refine r_block (r_seq (r_region' (l_q (q_load_agg (n := 6) Tryz.isAgg91 Tryz.sizeOf91 rfl ((hT.cells0)) (by rw [List.length_map]; (try simp only [List.length_set]); omega) rfl) (l_o (o_alloc Tryz.zeroValue91 rfl rfl ?_)))))
    intro b10 w10 hzl10 hzr10 _ hb10 hE10
    have hne_wb_b10 : wb ≠ b10 := by have := hk.blk.lt; omega
    have hne_b1_b10 : b1 ≠ b10 := by have := hb1.lt; omega
    have hne_b2_b10 : b2 ≠ b10 := by have := hb2.lt; omega
    have hne_b3_b10 : b3 ≠ b10 := by have := hT.lt; omega
    have hbs_b10 : w.heap.size ≤ b10 := Nat.le_trans hsz hzl10
    replace hM := hM.keep (hE10.block m hM.lt (by simp))
    replace hG0 := grown_trans hG0 (gm_ext hE10)
    replace hb1 := hb1.ext hE10
    replace hb2 := hb2.ext hE10
    replace hT := hT.ext hE10
    replace hmk := hmk.ext hE10
    replace hsz := Nat.le_trans hsz hE10.size
    refine l_o (o_store_all (cs' := (H).map vint) Tryz.sizeOf91 rfl rfl hb10 (rfl) (by rw [List.length_map]; (try simp only [List.length_set]); omega) (all_one_map _ _ (fun _ => rfl)) rfl ?_)
    intro w11 hz11 hb10 hG11
    replace hsz : w.heap.size ≤ w11.heap.size := by rw [hz11]; exact hsz
    replace hM := hM.keep (hG11.block m hM.lt (by simp; omega))
    replace hG0 := gm_upd hG0 hG11 (by omega)
    replace hb1 := hb1.upd hG11 (by first | assumption | (apply Ne.symm; assumption) | omega)
    replace hb2 := hb2.upd hG11 (by first | assumption | (apply Ne.symm; assumption) | omega)
    replace hT := hT.upd hG11 (by first | assumption | (apply Ne.symm; assumption) | omega)
    replace hmk := (by first | exact hmk.upd hG11 (by assumption) | exact hmk.updM hG11 (by assumption) | exact hmk.updL hG11 ((hLp _ _ _).1 (by assumption)))
    refine l_nil (r_seq (r_seq (r_region' (l_q (q_move (v := .pointer _) rfl rfl) (l_q (q_nilCheck rfl rfl) (l_q (q_fieldAddr (o' := 0) rfl fld106_0 rfl) (l_q (q_fieldAddr (o' := 0) rfl fld52_0 rfl) (l_q (q_load Tryz.isAgg47 rfl (((hk.blk.gm hM0 hG0).has (o := 0) rfl)) rfl) (l_q (q_len rfl Tryz.underlying47 rfl rfl) (l_q (qmi rfl rfl) (l_nil (r_block ?_))))))))))))
    refine r_roundsD (α := Nat × (List Int)) (fun ⟨a, HB⟩ e D wl => Knows e [(0, ptr wb 0), (3, vint (ki : Int)), (9, ptr b1 0), (10, ptr b2 0), (11, ptr b3 0), (13, ptr b10 0), (35, vint (sl.length : Int)), (36, vint (a : Int))] ∧ (a ≤ sl.length) ∧ (EH fr st0 ul.length HB) ∧ (LeL HB H) ∧ (fr < a → DN sl rl kl ul fr ki st0 HB) ∧ (Blk wl b3 (HB.map vint)) ∧ (∃ es2 ck2, MapAt wl m es2 ck2 ∧ MemoF sl rl kl ul ki es2) ∧ (Marks w.heap.size D wl) ∧ (w.grownBy wl (some m)) ∧ (Blk wl b1 [vint (-1)]) ∧ (Blk wl b2 [vint 0, vint 0, vint 0, vint 0, vint 0, vint 0]) ∧ (Blk wl b10 ((H).map vint)) ∧ (w.heap.size ≤ wl.heap.size)) (fun ⟨a, HB⟩ => sl.length - a) (0, H) ?_ ?_
    ·
     exact ⟨⟨rfl, rfl, rfl, rfl, rfl, rfl, rfl, rfl, trivial⟩, (Nat.zero_le _), hE, (fun _ _ => Int.le_refl _), (fun h => absurd h (Nat.not_lt_zero _)), hT, ⟨_, _, hM, hMemo⟩, hmk, hG0, hb1, hb2, hb10, hsz⟩
    ·
     rintro ⟨a, HB⟩ el12 D wl12 ⟨hkn, ha, hEB, hLB, hDB, hT, hM, hmk, hG0, hb1, hb2, hb10, hsz⟩ ih12
     obtain ⟨e12, rfl⟩ := knows_env hkn
     have hlB := hEB.len
     obtain ⟨es2, ck2, hM, hMemo⟩ := hM
     refine r_seq (r_region' (l_q (q_lss rfl rfl rfl) (l_nil (r_seq (r_cond rfl (fun hc13 => ?_) (fun hc13 => ?_))))))
     ·
      replace hc13 := dt hc13
      have hga : a < sl.length := by omega
      refine r_skip (r_seq (r_block (r_seq (r_region' (l_q (qmi rfl rfl) (l_q (qai rfl rfl) (l_nil (r_seq (r_region' (l_q (qmi rfl rfl) (l_q ((q_indexAddr_arr1 Tryz.underlying91 Tryz.sizeOf3 rfl rfl (by omega) rfl).cast (ptr0 _ _)) (l_q (q_load Tryz.isAgg3 rfl ((hT.has (o := a) (imap (by (try simp only [List.length_set]); omega)))) rfl) (l_o (o_alloc Tryz.zeroValue3 rfl rfl ?_))))))))))))))
      intro b14 w14 hzl14 hzr14 _ hb14 hE14
      have hne_wb_b14 : wb ≠ b14 := by have := hk.blk.lt; omega
      have hne_b1_b14 : b1 ≠ b14 := by have := hb1.lt; omega
      have hne_b2_b14 : b2 ≠ b14 := by have := hb2.lt; omega
      have hne_b3_b14 : b3 ≠ b14 := by have := hT.lt; omega
      have hne_b10_b14 : b10 ≠ b14 := by have := hb10.lt; omega
      have hbs_b14 : w.heap.size ≤ b14 := Nat.le_trans hsz hzl14
      replace hM := hM.keep (hE14.block m hM.lt (by simp))
      replace hG0 := grown_trans hG0 (gm_ext hE14)
      replace hb1 := hb1.ext hE14
      replace hb2 := hb2.ext hE14
      replace hT := hT.ext hE14
      replace hmk := hmk.ext hE14
      replace hb10 := hb10.ext hE14
      replace hsz := Nat.le_trans hsz hE14.size
      refine l_o (o_store (vs := [vint ((HB).getD a 0)]) (cs' := [vint ((HB).getD a 0)]) Tryz.sizeOf3 rfl rfl rfl rfl hb14 (Nat.le_of_ble_eq_true rfl) rfl rfl ?_)
      intro w15 hz15 hb14 hG15
      replace hsz : w.heap.size ≤ w15.heap.size := by rw [hz15]; exact hsz
      replace hM := hM.keep (hG15.block m hM.lt (by simp; omega))
      replace hG0 := gm_upd hG0 hG15 (by omega)
      replace hb1 := hb1.upd hG15 (by first | assumption | (apply Ne.symm; assumption) | omega)
      replace hb2 := hb2.upd hG15 (by first | assumption | (apply Ne.symm; assumption) | omega)
      replace hT := hT.upd hG15 (by first | assumption | (apply Ne.symm; assumption) | omega)
      replace hmk := (by first | exact hmk.upd hG15 (by assumption) | exact hmk.updM hG15 (by assumption) | exact hmk.updL hG15 ((hLp _ _ _).1 (by assumption)))
      replace hb10 := hb10.upd hG15 (by first | assumption | (apply Ne.symm; assumption) | omega)
      refine l_nil (r_block ?_)
      have hrB := hEB.rng (by omega) a (by omega)
      obtain ⟨hr0, hhr0⟩ : ∃ n : Nat, HB.getD a 0 = (n : Int) := ⟨_, (Int.toNat_of_nonneg (by omega)).symm⟩
      have hXB := hb14
      rw [hhr0] at hXB
      refine r_roundsD (α := Nat × Nat × (List Int)) (fun ⟨hr, xb, HC⟩ e D wl => Knows e [(0, ptr wb 0), (3, vint (ki : Int)), (9, ptr b1 0), (10, ptr b2 0), (11, ptr b3 0), (13, ptr b10 0), (14, vint (a : Int)), (15, ptr xb 0), (35, vint (sl.length : Int)), (36, vint (a : Int))] ∧ (EH fr st0 ul.length HC) ∧ (LeL HC H) ∧ ((fr < a ∨ (a = fr ∧ st0 < hr)) → DN sl rl kl ul fr ki st0 HC) ∧ (st0 ≤ hr) ∧ (w.heap.size ≤ xb) ∧ (b1 ≠ xb ∧ b2 ≠ xb ∧ b3 ≠ xb ∧ b10 ≠ xb) ∧ (Blk wl xb [vint (hr : Int)]) ∧ (Blk wl b3 (HC.map vint)) ∧ (∃ es2 ck2, MapAt wl m es2 ck2 ∧ MemoF sl rl kl ul ki es2) ∧ (Marks w.heap.size D wl) ∧ (w.grownBy wl (some m)) ∧ (Blk wl b1 [vint (-1)]) ∧ (Blk wl b2 [vint 0, vint 0, vint 0, vint 0, vint 0, vint 0]) ∧ (Blk wl b10 ((H).map vint)) ∧ (w.heap.size ≤ wl.heap.size)) (fun ⟨hr, xb, HC⟩ => ul.length + 1 - hr) (hr0, b14, HB) ?_ ?_
      ·
       exact ⟨⟨rfl, rfl, rfl, rfl, rfl, rfl, rfl, rfl, rfl, rfl, trivial⟩, hEB, hLB, (fun h => by rcases h with h | h; exact hDB h; have h2 := hEB.at0; rw [← h.1, hhr0] at h2; omega), (by omega), hbs_b14, ⟨by first | assumption | omega, by first | assumption | omega, by first | assumption | omega, by first | assumption | omega⟩, hXB, hT, ⟨_, _, hM, hMemo⟩, hmk, hG0, hb1, hb2, hb10, hsz⟩
      ·
       rintro ⟨hr, xb, HC⟩ el16 D wl16 ⟨hkn, hEC, hLC, hDC, hrl, hbs_xb, hnx, hXB, hT, hM, hmk, hG0, hb1, hb2, hb10, hsz⟩ ih16
       obtain ⟨e16, rfl⟩ := knows_env hkn
       have hlC := hEC.len
       obtain ⟨hnx1, hnx2, hnx3, hnx4⟩ := hnx
       obtain ⟨es2, ck2, hM, hMemo⟩ := hM
       refine r_seq (r_seq (r_draw ext_refl' ext_trans' [0, 1, 2, 3, 4, 5, 6, 7, 8] [2] 12 (by kernel_rfl) (by kernel_rfl) ?_))
       intro w17 _ hE17
       replace hM := hM.keep (hE17.block m hM.lt (by simp))
       replace hG0 := grown_trans hG0 (gm_ext hE17)
       replace hb1 := hb1.ext hE17
       replace hb2 := hb2.ext hE17
       replace hT := hT.ext hE17
       replace hmk := hmk.ext hE17
       replace hb10 := hb10.ext hE17
       replace hXB := hXB.ext hE17
       replace hsz := Nat.le_trans hsz hE17.size
       refine m_q rfl rfl (fun w' hC' => q_load Tryz.isAgg3 rfl (((hXB.has (o := 0) rfl).ext hC')) rfl) (m_q rfl rfl (fun w' hC' => q_move (v := .pointer _) rfl rfl) (m_o rfl rfl (o_call Tryz.call28 rfl (rend_ret sa sc sl ra rc rl ka kc kl ua uc ul wb ga gc ms _ (hk.gm hM0 hG0)) rfl ?_)))
       rintro _ w18 ⟨rfl, rfl⟩
       refine ⟨Ext.refl _, ?_⟩
       refine m_q rfl rfl (fun w' hC' => q_lss rfl rfl rfl) (m_q rfl rfl (fun w' hC' => qmb rfl rfl) (m_part 46 rfl (fun hc19 => ?_) (fun hc19 => ?_)))
       ·
        replace hc19 := dt hc19
        have hgr : hr < ul.length := by omega
        refine m_q rfl rfl (fun w' hC' => qmi rfl rfl) (m_q rfl rfl (fun w' hC' => q_load Tryz.isAgg3 rfl (((hb1.has (o := 0) rfl).ext hC')) rfl) (m_q rfl rfl (fun w' hC' => q_neq rfl rfl rfl) (m_q rfl rfl (fun w' hC' => q_pick_t (v := .bool _) rfl rfl rfl) (m_nil ?_))))
        have hk20 : (!decide ((a : Int) = (-1))) = true := by rw [decide_eq_false (by omega)]; rfl
        refine r_cond_t ((congrArg Value.bool hk20 : Value.bool _ = _)) (r_skip (r_seq (r_block (r_seq (r_region' (l_q (q_move (v := .pointer _) rfl rfl) (l_q (qmi rfl rfl) (l_q (qmi rfl rfl) (l_q (q_load Tryz.isAgg3 rfl ((hXB.has (o := 0) rfl)) rfl) (l_q (q_build (v := .agg ⟨[vint (a : Int), vint (hr : Int)]⟩) (fun w => by kernel_rfl) rfl) (l_o (o_call Tryz.call39 rfl (from_ret sa sc sl ra rc rl ka kc kl ua uc ul wb ga gc ms m _ _ a ki hr _ hok (hk.gm hM0 hG0) hM hMemo hga hgk hgr hml hm) rfl ?_))))))))))))
        rintro _ w21 ⟨rfl, esc21, ckc21, hMc21, hMm21, hGc21⟩
        replace hsz : w.heap.size ≤ w21.heap.size := Nat.le_trans hsz hGc21.size
        replace hG0 := gm_upd hG0 hGc21 (by omega)
        replace hb1 := hb1.upd hGc21 (by first | assumption | (apply Ne.symm; assumption) | omega)
        replace hb2 := hb2.upd hGc21 (by first | assumption | (apply Ne.symm; assumption) | omega)
        replace hT := hT.upd hGc21 (by first | assumption | (apply Ne.symm; assumption) | omega)
        replace hmk := (by first | exact hmk.upd hGc21 (by assumption) | exact hmk.updM hGc21 (by assumption) | exact hmk.updL hGc21 ((hLp _ _ _).1 (by assumption)))
        replace hb10 := hb10.upd hGc21 (by first | assumption | (apply Ne.symm; assumption) | omega)
        replace hXB := hXB.upd hGc21 (by first | assumption | (apply Ne.symm; assumption) | omega)
        have hM := hMc21
        have hMemo := hMm21
        refine l_o (o_call Tryz.call40 rfl (each_ret (flF sl rl kl ul a ki hr) _) rfl ?_)
        rintro _ w22 ⟨bx1, rfl, hbx1, hx1, hEcl⟩
        have hne_b1_bx1 : b1 ≠ bx1 := by have := hb1.lt; omega
        have hne_b2_bx1 : b2 ≠ bx1 := by have := hb2.lt; omega
        have hne_b3_bx1 : b3 ≠ bx1 := by have := hT.lt; omega
        have hne_b10_bx1 : b10 ≠ bx1 := by have := hb10.lt; omega
        have hne_xb_bx1 : xb ≠ bx1 := by have := hXB.lt; omega
        have hbs_bx1 : w.heap.size ≤ bx1 := Nat.le_trans hsz hbx1
        replace hG0 := grown_trans hG0 (gm_ext hEcl)
        replace hb1 := hb1.ext hEcl
        replace hb2 := hb2.ext hEcl
        replace hT := hT.ext hEcl
        replace hmk := hmk.ext hEcl
        replace hb10 := hb10.ext hEcl
        replace hXB := hXB.ext hEcl
        replace hM := hM.keep (hEcl.block m hM.lt (by simp))
        replace hsz := Nat.le_trans hsz hEcl.size
        refine l_nil (r_forget [(0, .pointer _), (3, .int _ _), (9, .pointer _), (10, .pointer _), (11, .pointer _), (13, .pointer _), (14, .int _ _), (15, .pointer _), (35, .int _ _), (36, .int _ _), (59, .func _ _ _)] ⟨rfl, rfl, rfl, rfl, rfl, rfl, rfl, rfl, rfl, rfl, rfl, trivial⟩ (fun e23 => (r_block (r_rangeFunc' (fst := []) (cap := [_]) rfl rfl Tryz.call75 ?_))))
        intro l db wl Lp hLp hLk hEl hll hldb hlne hdbN hlN hdb hlp
        have hlt_b1 := hb1.lt
        have hlt_b2 := hb2.lt
        have hlt_b3 := hT.lt
        have hlt_b10 := hb10.lt
        have hlt_xb := hXB.lt
        have hltm := hM.lt
        have hlt_bx1 := hx1.lt
        have hnd := hmk.lt hldb
        have hszl := hEl.size
        replace hG0 := grown_trans hG0 (gm_ext hEl)
        replace hb1 := hb1.ext hEl
        replace hb2 := hb2.ext hEl
        replace hT := hT.ext hEl
        replace hmk := hmk.ext hEl
        replace hb10 := hb10.ext hEl
        replace hXB := hXB.ext hEl
        replace hM := hM.keep (hEl.block m hM.lt (by simp))
        replace hx1 := hx1.ext hEl
        replace hsz := Nat.le_trans hsz hEl.size
        have hbs_l : w.heap.size ≤ l := by omega
        have hbs_db : w.heap.size ≤ db := by omega
        replace hmk := hmk.cons hdb hbs_db hnd
        have hmkl := hmk
        have hJ0 : (fun (k : Nat) wq => ∃ (HD : List Int), (w.grownBy wq (some m)) ∧ (Blk wq b1 [vint (-1)]) ∧ (Blk wq b2 [vint 0, vint 0, vint 0, vint 0, vint 0, vint 0]) ∧ (Blk wq b3 ((HD).map vint)) ∧ (Marks w.heap.size (marked db :: D) wq) ∧ (Blk wq b10 ((H).map vint)) ∧ (Blk wq xb [vint (hr : Int)]) ∧ (∃ es ck, MapAt wq m es ck ∧ MemoF sl rl kl ul ki es) ∧ (Blk wq bx1 [.int .u64 ((flF sl rl kl ul a ki hr : Nat) : Int)]) ∧ (Lp wq .ready none) ∧ (wq.heap[db]? = some (.deferred (some []))) ∧ (EH fr st0 ul.length HD) ∧ (LeL HD HC) ∧ (∀ b, b < k → (flF sl rl kl ul a ki hr).testBit b = true → HD.getD b 0 ≤ (hr : Int) + 1)) 0 wl := ⟨HC, hG0, hb1, hb2, hT, hmk, hb10, hXB, ⟨_, _, hM, hMemo⟩, hx1, hlp, hdb, hEC, (fun _ _ => Int.le_refl _), (fun b hb => absurd hb (Nat.not_lt_zero _))⟩
        have hJs : ∀ k w1 w2, (fun (k : Nat) wq => ∃ (HD : List Int), (w.grownBy wq (some m)) ∧ (Blk wq b1 [vint (-1)]) ∧ (Blk wq b2 [vint 0, vint 0, vint 0, vint 0, vint 0, vint 0]) ∧ (Blk wq b3 ((HD).map vint)) ∧ (Marks w.heap.size (marked db :: D) wq) ∧ (Blk wq b10 ((H).map vint)) ∧ (Blk wq xb [vint (hr : Int)]) ∧ (∃ es ck, MapAt wq m es ck ∧ MemoF sl rl kl ul ki es) ∧ (Blk wq bx1 [.int .u64 ((flF sl rl kl ul a ki hr : Nat) : Int)]) ∧ (Lp wq .ready none) ∧ (wq.heap[db]? = some (.deferred (some []))) ∧ (EH fr st0 ul.length HD) ∧ (LeL HD HC) ∧ (∀ b, b < k → (flF sl rl kl ul a ki hr).testBit b = true → HD.getD b 0 ≤ (hr : Int) + 1)) k w1 → Below wl.heap.size w1 w2 → (fun (k : Nat) wq => ∃ (HD : List Int), (w.grownBy wq (some m)) ∧ (Blk wq b1 [vint (-1)]) ∧ (Blk wq b2 [vint 0, vint 0, vint 0, vint 0, vint 0, vint 0]) ∧ (Blk wq b3 ((HD).map vint)) ∧ (Marks w.heap.size (marked db :: D) wq) ∧ (Blk wq b10 ((H).map vint)) ∧ (Blk wq xb [vint (hr : Int)]) ∧ (∃ es ck, MapAt wq m es ck ∧ MemoF sl rl kl ul ki es) ∧ (Blk wq bx1 [.int .u64 ((flF sl rl kl ul a ki hr : Nat) : Int)]) ∧ (Lp wq .ready none) ∧ (wq.heap[db]? = some (.deferred (some []))) ∧ (EH fr st0 ul.length HD) ∧ (LeL HD HC) ∧ (∀ b, b < k → (flF sl rl kl ul a ki hr).testBit b = true → HD.getD b 0 ≤ (hr : Int) + 1)) k w2 := fun k w1 w2 hJ hB2 => by
          obtain ⟨HD, q0, q1, q2, q3, q4, q5, q6, q7, q8, q9, q10, q11, q12, q13⟩ := hJ
          exact ⟨HD, (gm_below q0 hB2 (by omega)), (q1.keep (hB2.block _ (by omega))), (q2.keep (hB2.block _ (by omega))), (q3.keep (hB2.block _ (by omega))), (Marks.belowN hmkl q4 (Nat.le_refl _) hB2), (q5.keep (hB2.block _ (by omega))), (q6.keep (hB2.block _ (by omega))), (let ⟨es, ck, h1, h2⟩ := q7; ⟨es, ck, h1.keep (hB2.block m (by omega)), h2⟩), (q8.keep (hB2.block _ (by omega))), (hLk _ _ _ _ q9 (hB2.block l hlN)), ((hB2.block db hdbN).trans q10), q11, q12, q13⟩
        refine (each1_ret l bx1 (flF sl rl kl ul a ki hr) (fun (k : Nat) wq => ∃ (HD : List Int), (w.grownBy wq (some m)) ∧ (Blk wq b1 [vint (-1)]) ∧ (Blk wq b2 [vint 0, vint 0, vint 0, vint 0, vint 0, vint 0]) ∧ (Blk wq b3 ((HD).map vint)) ∧ (Marks w.heap.size (marked db :: D) wq) ∧ (Blk wq b10 ((H).map vint)) ∧ (Blk wq xb [vint (hr : Int)]) ∧ (∃ es ck, MapAt wq m es ck ∧ MemoF sl rl kl ul ki es) ∧ (Blk wq bx1 [.int .u64 ((flF sl rl kl ul a ki hr : Nat) : Int)]) ∧ (Lp wq .ready none) ∧ (wq.heap[db]? = some (.deferred (some []))) ∧ (EH fr st0 ul.length HD) ∧ (LeL HD HC) ∧ (∀ b, b < k → (flF sl rl kl ul a ki hr).testBit b = true → HD.getD b 0 ≤ (hr : Int) + 1)) (fun wq => False) wl (flF_lt hs6) hJ0 (fun k w1 hJ => by
            obtain ⟨HD, hG0, hb1, hb2, hT, hmk, hb10, hXB, hM, hx1, hlp, hdb, hED, hLD, hPD⟩ := hJ
            exact hx1) hJs (fun k w1 hk6 hJ hnb => by
            obtain ⟨HD, hG0, hb1, hb2, hT, hmk, hb10, hXB, hM, hx1, hlp, hdb, hED, hLD, hPD⟩ := hJ
            exact ⟨HD, hG0, hb1, hb2, hT, hmk, hb10, hXB, hM, hx1, hlp, hdb, hED, hLD, (fun b hb hbt => by rcases Nat.lt_succ_iff_lt_or_eq.1 hb with h | h; exact hPD b h hbt; subst h; rw [hnb] at hbt; cases hbt)⟩) ?_).mono ?_
        · intro k w1 hk6 hJ hN hbit
          obtain ⟨HD, hG0, hb1, hb2, hT, hmk, hb10, hXB, hM, hx1, hlp, hdb, hED, hLD, hPD⟩ := hJ
          refine yieldAt_of ((hLp _ _ _).1 hlp) rfl (by rfl) (by kernel_rfl) ?_
          have hsz : w.heap.size ≤ w1.heap.size := by omega
          have hszr : w1.heap.size ≤ w1.heap.size := Nat.le_refl _
          obtain ⟨es1, ck1, hM, hMemo⟩ := hM
          have hkl : k < sl.length := by have h := hbit; rw [flF_bit, Bool.and_eq_true, decide_eq_true_eq] at h; exact h.1
          have hk5 : k < 6 := Nat.lt_of_lt_of_le hkl hs6
          have hlD := hED.len
          refine r_forget [(9, ptr b1 0), (11, ptr b3 0), (15, ptr xb 0), (60, vint (k : Int))] ⟨rfl, rfl, rfl, rfl, trivial⟩ (fun e24 => (r_region' (l_q (qai rfl rfl) (l_nil (r_begin rfl ((hLp _ _ _).1 hlp) ?_)))))
          intro wb25 hzb25 hgb25 hl25
          replace hsz : w.heap.size ≤ wb25.heap.size := by rw [hzb25]; exact hsz
          replace hG0 := gm_upd hG0 hgb25 (by omega)
          replace hb1 := hb1.upd hgb25 (by first | assumption | (apply Ne.symm; assumption) | omega)
          replace hb2 := hb2.upd hgb25 (by first | assumption | (apply Ne.symm; assumption) | omega)
          replace hT := hT.upd hgb25 (by first | assumption | (apply Ne.symm; assumption) | omega)
          replace hmk := (by first | exact hmk.upd hgb25 (by assumption) | exact hmk.updM hgb25 (by assumption) | exact hmk.updL hgb25 ((hLp _ _ _).1 (by assumption)))
          replace hb10 := hb10.upd hgb25 (by first | assumption | (apply Ne.symm; assumption) | omega)
          replace hXB := hXB.upd hgb25 (by first | assumption | (apply Ne.symm; assumption) | omega)
          replace hM := hM.keep (hgb25.block m hM.lt (by simp; omega))
          replace hx1 := hx1.upd hgb25 (by first | assumption | (apply Ne.symm; assumption) | omega)
          replace hdb := (hgb25.block db (heap_lt hdb) (by simp; omega)).trans hdb
          replace hszr := Nat.le_trans hszr hgb25.size
          have hlp := (hLp _ _ _).2 hl25
          refine r_block (r_seq (r_region' (l_q (qmi rfl rfl) (l_q (q_load Tryz.isAgg3 rfl ((hb1.has (o := 0) rfl)) rfl) (l_q (q_neq rfl rfl rfl) (l_nil ?_))))))
          have hk26 : (!decide ((k : Int) = (-1))) = true := by rw [decide_eq_false (by omega)]; rfl
          refine r_cond_t ((congrArg Value.bool hk26 : Value.bool _ = _)) (r_draw ext_refl' ext_trans' [0, 1, 2, 3, 4, 5, 6, 7, 8, 9] [6, 7, 9, 1009] 14 (by kernel_rfl) (by kernel_rfl) ?_)
          intro w27 _ hE27
          replace hG0 := grown_trans hG0 (gm_ext hE27)
          replace hb1 := hb1.ext hE27
          replace hb2 := hb2.ext hE27
          replace hT := hT.ext hE27
          replace hmk := hmk.ext hE27
          replace hb10 := hb10.ext hE27
          replace hXB := hXB.ext hE27
          replace hM := hM.keep (hE27.block m hM.lt (by simp))
          replace hx1 := hx1.ext hE27
          replace hdb := (hE27.block db (heap_lt hdb) (by simp)).trans hdb
          replace hszr := Nat.le_trans hszr hE27.size
          replace hlp := hLk _ _ _ _ hlp (hE27.block l (((hLp _ _ _).1 hlp).lt) (by simp))
          replace hsz := Nat.le_trans hsz hE27.size
          refine m_q rfl rfl (fun w' hC' => qmi rfl rfl) (m_q rfl rfl (fun w' hC' => qmi rfl rfl) (m_q rfl rfl (fun w' hC' => (q_indexAddr_arr1 Tryz.underlying91 Tryz.sizeOf3 rfl rfl (by omega) rfl).cast (ptr0 _ _)) (m_q rfl rfl (fun w' hC' => q_load Tryz.isAgg3 rfl (((hT.has (o := k) (imap (by (try simp only [List.length_set]); omega))).ext hC')) rfl) (m_q rfl rfl (fun w' hC' => q_load Tryz.isAgg3 rfl (((hXB.has (o := 0) rfl).ext hC')) rfl) (m_q rfl rfl (fun w' hC' => q_add rfl rfl (by omega) rfl) (m_o rfl rfl (o_buildSlice (el := 3) (cs := [vint ((HD).getD k 0), vint ((hr : Int) + 1)]) Tryz.underlying31 el3 (by decide) (by kernel_rfl) rfl (by decide) rfl ?_)))))))
          intro b28 w28 hzl28 hzr28 _ hb28 hE28 ho28
          refine ⟨hE28, ?_⟩
          have hne_wb_b28 : wb ≠ b28 := by have := hk.blk.lt; omega
          have hne_b1_b28 : b1 ≠ b28 := by have := hb1.lt; omega
          have hne_b2_b28 : b2 ≠ b28 := by have := hb2.lt; omega
          have hne_b3_b28 : b3 ≠ b28 := by have := hT.lt; omega
          have hne_b10_b28 : b10 ≠ b28 := by have := hb10.lt; omega
          have hne_xb_b28 : xb ≠ b28 := by have := hXB.lt; omega
          have hne_bx1_b28 : bx1 ≠ b28 := by have := hx1.lt; omega
          have hbs_b28 : w.heap.size ≤ b28 := Nat.le_trans hsz hzl28
          replace hG0 := grown_trans hG0 (gm_ext hE28)
          replace hb1 := hb1.ext hE28
          replace hb2 := hb2.ext hE28
          replace hT := hT.ext hE28
          replace hmk := hmk.ext hE28
          replace hb10 := hb10.ext hE28
          replace hXB := hXB.ext hE28
          replace hM := hM.keep (hE28.block m hM.lt (by simp))
          replace hx1 := hx1.ext hE28
          replace hdb := (hE28.block db (heap_lt hdb) (by simp)).trans hdb
          replace hszr := Nat.le_trans hszr hE28.size
          replace hlp := hLk _ _ _ _ hlp (hE28.block l (((hLp _ _ _).1 hlp).lt) (by simp))
          replace hsz := Nat.le_trans hsz hE28.size
          refine m_o rfl rfl (o_call Tryz.call41 rfl (rsmall_ret _ _ [(HD).getD k 0, (hr : Int) + 1] _ (Row.of_owns ho28) (by first | omega | simp) (by first | omega | simp)) rfl ?_)
          rintro _ w29 ⟨rfl, hE29⟩
          refine ⟨hE29, ?_⟩
          replace hG0 := grown_trans hG0 (gm_ext hE29)
          replace hb1 := hb1.ext hE29
          replace hb2 := hb2.ext hE29
          replace hT := hT.ext hE29
          replace hmk := hmk.ext hE29
          replace hb10 := hb10.ext hE29
          replace hXB := hXB.ext hE29
          replace hM := hM.keep (hE29.block m hM.lt (by simp))
          replace hx1 := hx1.ext hE29
          replace hdb := (hE29.block db (heap_lt hdb) (by simp)).trans hdb
          replace hszr := Nat.le_trans hszr hE29.size
          replace hlp := hLk _ _ _ _ hlp (hE29.block l (((hLp _ _ _).1 hlp).lt) (by simp))
          replace hsz := Nat.le_trans hsz hE29.size
          refine m_q rfl rfl (fun w' hC' => (q_indexAddr_arr1 Tryz.underlying91 Tryz.sizeOf3 rfl rfl (by omega) rfl).cast (ptr0 _ _)) (m_last rfl rfl rfl (o_store1 (v := vint (minOf [(HD).getD k 0, (hr : Int) + 1])) (o := k) Tryz.sizeOf3 rfl rfl rfl rfl hT (by rw [List.length_map]; (try simp only [List.length_set]); omega) rfl ?_))
          intro w30 hz30 hT hG30
          rw [imap_set] at hT
          replace hsz : w.heap.size ≤ w30.heap.size := by rw [hz30]; exact hsz
          replace hG0 := gm_upd hG0 hG30 (by omega)
          replace hb1 := hb1.upd hG30 (by first | assumption | (apply Ne.symm; assumption) | omega)
          replace hb2 := hb2.upd hG30 (by first | assumption | (apply Ne.symm; assumption) | omega)
          replace hmk := (by first | exact hmk.upd hG30 (by assumption) | exact hmk.updM hG30 (by assumption) | exact hmk.updL hG30 ((hLp _ _ _).1 (by assumption)))
          replace hb10 := hb10.upd hG30 (by first | assumption | (apply Ne.symm; assumption) | omega)
          replace hXB := hXB.upd hG30 (by first | assumption | (apply Ne.symm; assumption) | omega)
          replace hM := hM.keep (hG30.block m hM.lt (by simp; omega))
          replace hx1 := hx1.upd hG30 (by first | assumption | (apply Ne.symm; assumption) | omega)
          replace hdb := (hG30.block db (heap_lt hdb) (by simp; omega)).trans hdb
          replace hszr := Nat.le_trans hszr hG30.size
          replace hlp := hLk _ _ _ _ hlp (hG30.block l (((hLp _ _ _).1 hlp).lt) (by simp; omega))
          refine m_nil (r_forget [] trivial (fun e31 => (r_inBlock (r_round_end rfl ((hLp _ _ _).1 hlp) ?_))))
          intro we32 hze32 hge32 hl32
          replace hsz : w.heap.size ≤ we32.heap.size := by rw [hze32]; exact hsz
          replace hG0 := gm_upd hG0 hge32 (by omega)
          replace hb1 := hb1.upd hge32 (by first | assumption | (apply Ne.symm; assumption) | omega)
          replace hb2 := hb2.upd hge32 (by first | assumption | (apply Ne.symm; assumption) | omega)
          replace hT := hT.upd hge32 (by first | assumption | (apply Ne.symm; assumption) | omega)
          replace hmk := (by first | exact hmk.upd hge32 (by assumption) | exact hmk.updM hge32 (by assumption) | exact hmk.updL hge32 ((hLp _ _ _).1 (by assumption)))
          replace hb10 := hb10.upd hge32 (by first | assumption | (apply Ne.symm; assumption) | omega)
          replace hXB := hXB.upd hge32 (by first | assumption | (apply Ne.symm; assumption) | omega)
          replace hM := hM.keep (hge32.block m hM.lt (by simp; omega))
          replace hx1 := hx1.upd hge32 (by first | assumption | (apply Ne.symm; assumption) | omega)
          replace hdb := (hge32.block db (heap_lt hdb) (by simp; omega)).trans hdb
          replace hszr := Nat.le_trans hszr hge32.size
          have hlp := (hLp _ _ _).2 hl32
          exact ⟨true, rfl, fun _ => ⟨(HD).set k (minOf [(HD).getD k 0, (hr : Int) + 1]), hG0, hb1, hb2, hT, hmk, hb10, hXB, ⟨_, _, hM, hMemo⟩, hx1, hlp, hdb, (hED.put hk5 hrl), (hLD.put hlD hk5), (pd_put hPD hlD hk5)⟩, (fun h => by cases h), hszr⟩
        · rintro _ w2 (hJ | hJ)
          ·
           obtain ⟨HD, hG0, hb1, hb2, hT, hmk, hb10, hXB, hM, hx1, hlp, hdb, hED, hLD, hPD⟩ := hJ
           obtain ⟨es1, ck1, hM, hMemo⟩ := hM
           refine ⟨.ready, none, (by decide), hlp, rfl, ?_⟩
           intro w3 hz3 hg3
           have hsz2 : w.heap.size ≤ w2.heap.size := by have := hG0.size; omega
           have hsz : w.heap.size ≤ w3.heap.size := by rw [hz3]; exact hsz2
           replace hG0 := gm_upd hG0 hg3 (by omega)
           replace hb1 := hb1.upd hg3 (by first | assumption | (apply Ne.symm; assumption) | omega)
           replace hb2 := hb2.upd hg3 (by first | assumption | (apply Ne.symm; assumption) | omega)
           replace hT := hT.upd hg3 (by first | assumption | (apply Ne.symm; assumption) | omega)
           replace hmk := (by first | exact hmk.upd hg3 (by assumption) | exact hmk.updM hg3 (by assumption) | exact hmk.updL hg3 ((hLp _ _ _).1 (by assumption)))
           replace hb10 := hb10.upd hg3 (by first | assumption | (apply Ne.symm; assumption) | omega)
           replace hXB := hXB.upd hg3 (by first | assumption | (apply Ne.symm; assumption) | omega)
           replace hM := hM.keep (hg3.block m hM.lt (by simp; omega))
           replace hx1 := hx1.upd hg3 (by first | assumption | (apply Ne.symm; assumption) | omega)
           have hlD := hED.len
           have hDD : (fr < a ∨ (a = fr ∧ st0 < hr + 1)) → DN sl rl kl ul fr ki st0 HD := fun h => by
             by_cases h1 : fr < a ∨ (a = fr ∧ st0 < hr)
             · exact dn_mono hs6 hLD (hDC h1)
             · have h2 : a = fr := by omega
               have h3 : hr = st0 := by omega
               rw [h2, h3] at hPD
               exact dn_new hs6 (fun b hb hbt => hPD b hb hbt)
           refine r_inBlock (r_inBlock (r_seq (r_seq (r_region' (l_q (q_load Tryz.isAgg3 rfl ((hXB.has (o := 0) rfl)) rfl) (l_nil (r_region' (l_o (o_alloc Tryz.zeroValue3 rfl rfl ?_)))))))))
           intro b33 w33 hzl33 hzr33 _ hb33 hE33
           have hne_wb_b33 : wb ≠ b33 := by have := hk.blk.lt; omega
           have hne_b1_b33 : b1 ≠ b33 := by have := hb1.lt; omega
           have hne_b2_b33 : b2 ≠ b33 := by have := hb2.lt; omega
           have hne_b3_b33 : b3 ≠ b33 := by have := hT.lt; omega
           have hne_b10_b33 : b10 ≠ b33 := by have := hb10.lt; omega
           have hne_xb_b33 : xb ≠ b33 := by have := hXB.lt; omega
           have hne_bx1_b33 : bx1 ≠ b33 := by have := hx1.lt; omega
           have hbs_b33 : w.heap.size ≤ b33 := Nat.le_trans hsz hzl33
           replace hG0 := grown_trans hG0 (gm_ext hE33)
           replace hb1 := hb1.ext hE33
           replace hb2 := hb2.ext hE33
           replace hT := hT.ext hE33
           replace hmk := hmk.ext hE33
           replace hb10 := hb10.ext hE33
           replace hM := hM.keep (hE33.block m hM.lt (by simp))
           replace hsz := Nat.le_trans hsz hE33.size
           refine l_o (o_store (vs := [vint (hr : Int)]) (cs' := [vint (hr : Int)]) Tryz.sizeOf3 rfl rfl rfl rfl hb33 (Nat.le_of_ble_eq_true rfl) rfl rfl ?_)
           intro w34 hz34 hb33 hG34
           replace hsz : w.heap.size ≤ w34.heap.size := by rw [hz34]; exact hsz
           replace hG0 := gm_upd hG0 hG34 (by omega)
           replace hb1 := hb1.upd hG34 (by first | assumption | (apply Ne.symm; assumption) | omega)
           replace hb2 := hb2.upd hG34 (by first | assumption | (apply Ne.symm; assumption) | omega)
           replace hT := hT.upd hG34 (by first | assumption | (apply Ne.symm; assumption) | omega)
           replace hmk := (by first | exact hmk.upd hG34 (by assumption) | exact hmk.updM hG34 (by assumption) | exact hmk.updL hG34 ((hLp _ _ _).1 (by assumption)))
           replace hb10 := hb10.upd hG34 (by first | assumption | (apply Ne.symm; assumption) | omega)
           replace hM := hM.keep (hG34.block m hM.lt (by simp; omega))
           refine l_nil (r_region' (l_q (q_load Tryz.isAgg3 rfl ((hb33.has (o := 0) rfl)) rfl) (l_q (q_add rfl rfl (by omega) rfl) (l_o (o_store (vs := [vint ((hr : Int) + 1)]) (cs' := [vint ((hr : Int) + 1)]) Tryz.sizeOf3 rfl rfl rfl rfl hb33 (Nat.le_of_ble_eq_true rfl) rfl rfl ?_)))))
           intro w35 hz35 hb33 hG35
           replace hsz : w.heap.size ≤ w35.heap.size := by rw [hz35]; exact hsz
           replace hG0 := gm_upd hG0 hG35 (by omega)
           replace hb1 := hb1.upd hG35 (by first | assumption | (apply Ne.symm; assumption) | omega)
           replace hb2 := hb2.upd hG35 (by first | assumption | (apply Ne.symm; assumption) | omega)
           replace hT := hT.upd hG35 (by first | assumption | (apply Ne.symm; assumption) | omega)
           replace hmk := (by first | exact hmk.upd hG35 (by assumption) | exact hmk.updM hG35 (by assumption) | exact hmk.updL hG35 ((hLp _ _ _).1 (by assumption)))
           replace hb10 := hb10.upd hG35 (by first | assumption | (apply Ne.symm; assumption) | omega)
           replace hM := hM.keep (hG35.block m hM.lt (by simp; omega))
           refine l_nil ?_
           exact ih16 (hr + 1, b33, HD) _ _ _ ⟨⟨rfl, rfl, rfl, rfl, rfl, rfl, rfl, by first | rfl | exact vint_eq (by omega), rfl, rfl, trivial⟩, hED, (hLD.trans hLC), hDD, (by omega), (by omega), ⟨by first | assumption | omega, by first | assumption | omega, by first | assumption | omega, by first | assumption | omega⟩, (by have h := hb33; rw [show (hr : Int) + 1 = ((hr + 1 : Nat) : Int) from by omega] at h; exact h), hT, ⟨_, _, hM, hMemo⟩, hmk, hG0, hb1, hb2, hb10, hsz⟩ (by first | omega | (dsimp only; omega))
          ·
           exact hJ.elim
       ·
        replace hc19 := dlt hc19
        refine m_q rfl rfl (fun w' hC' => q_skip rfl) (m_q rfl rfl (fun w' hC' => q_skip rfl) (m_q rfl rfl (fun w' hC' => q_skip rfl) (m_q rfl rfl (fun w' hC' => q_pick_f (v := .bool _) rfl rfl rfl) (m_nil (r_cond_f rfl (r_exit rfl (r_inBlock (r_region' (l_q (q_add rfl rfl (by omega) rfl) (l_q (qmi rfl rfl) (l_nil (r_forget [(0, .pointer _), (3, .int _ _), (9, .pointer _), (10, .pointer _), (11, .pointer _), (13, .pointer _), (35, .int _ _), (36, .int _ _)] ⟨rfl, rfl, rfl, rfl, rfl, rfl, rfl, rfl, trivial⟩ (fun e36 => ?_)))))))))))))
        exact ih12 (a + 1, HC) _ _ _ ⟨⟨rfl, rfl, rfl, rfl, rfl, rfl, rfl, (vint_eq (by omega)), trivial⟩, (by omega), hEC, hLC, (fun h => hDC (by omega)), hT, ⟨_, _, hM, hMemo⟩, hmk, hG0, hb1, hb2, hb10, hsz⟩ (by first | omega | (dsimp only; omega))
     ·
      replace hc13 := dlt hc13
      refine r_exit rfl (r_seq (r_region' (l_q (q_load_agg (n := 6) Tryz.isAgg91 Tryz.sizeOf91 rfl ((hT.cells0)) (by rw [List.length_map]; (try simp only [List.length_set]); omega) rfl) (l_q (q_load_agg (n := 6) Tryz.isAgg91 Tryz.sizeOf91 rfl ((hb10.cells0)) (by rw [List.length_map]; (try simp only [List.length_set]); omega) rfl) (l_q (q_eql_ints' Tryz.underlying91 (by kernel_rfl) (by kernel_rfl) Tryz.underlying3 Tryz.isAgg3 (by kernel_rfl) rfl rfl (by (try simp only [List.length_set]); omega) (by (try simp only [List.length_set]); omega) rfl) (l_nil (r_cond rfl (fun hc37 => ?_) (fun hc37 => ?_))))))))
      ·
       replace hc37 := dt hc37
       have g77 := hc37
       refine r_seq (r_region' (l_q (q_load_agg (n := 6) Tryz.isAgg91 Tryz.sizeOf91 rfl ((hT.cells0)) (by rw [List.length_map]; (try simp only [List.length_set]); omega) rfl) (l_o (o_store_all (cs' := (HB).map vint) Tryz.sizeOf91 rfl rfl hb2 (rfl) (by rw [List.length_map]; (try simp only [List.length_set]); omega) (all_one_map _ _ (fun _ => rfl)) rfl ?_))))
       intro w38 hz38 hb2 hG38
       replace hsz : w.heap.size ≤ w38.heap.size := by rw [hz38]; exact hsz
       replace hM := hM.keep (hG38.block m hM.lt (by simp; omega))
       replace hG0 := gm_upd hG0 hG38 (by omega)
       replace hb1 := hb1.upd hG38 (by first | assumption | (apply Ne.symm; assumption) | omega)
       replace hT := hT.upd hG38 (by first | assumption | (apply Ne.symm; assumption) | omega)
       replace hmk := (by first | exact hmk.upd hG38 (by assumption) | exact hmk.updM hG38 (by assumption) | exact hmk.updL hG38 ((hLp _ _ _).1 (by assumption)))
       refine l_nil (r_forget [(10, .pointer _)] ⟨rfl, trivial⟩ (fun e39 => ?_))
       obtain ⟨wf40, hUf, hzf40, hFf40⟩ := unw_many hmk
       replace hsz : w.heap.size ≤ wf40.heap.size := by rw [hzf40]; exact hsz
       replace hG0 := gm_unw hG0 hFf40 (Nat.le_refl _)
       replace hb1 := hb1.unw hFf40
       replace hb2 := hb2.unw hFf40
       replace hT := hT.unw hFf40
       refine r_ret_ (vs := [.agg _]) rfl Tryz.func27 rfl (hUf) ⟨⟨_, _, rfl, run_loadVarA Tryz.isAgg91 Tryz.sizeOf91 (hb2.cells0) (by rw [List.length_map]; (try simp only [List.length_set]); omega)⟩, trivial⟩ ?_
       exact ⟨HB, rfl, hEB, hDB (by omega), hG0⟩
      ·
       replace hc37 := df hc37
       have g77 := hc37
       have hdec := sum_lt hE hEB (by omega) hLB g77
       refine r_skip (r_inBlock ?_)
       exact ih9 HB _ _ _ ⟨⟨rfl, rfl, rfl, rfl, rfl, trivial⟩, hEB, hT, ⟨_, _, hM, hMemo⟩, hmk, hG0, hb1, hb2, hsz⟩ (by first | omega | (dsimp only; omega))
end Go.Proofs.YtbikicakdkbcgacGreat
