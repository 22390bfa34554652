/- Contracts. -/
import Derived.Test.YtbikicakdkbcgaaF7
set_option linter.unusedVariables false
set_option linter.unusedSimpArgs false
namespace Go.Proofs.Ytbikicakdkbcgaa
open Go Go.RowKit Go.Gv Go.Fl

def minOf (xs : List Int) : Int := xs.foldl min (xs.getD 0 0)
theorem min_one {xs : List Int} (h : 0 < xs.length) : (xs.take 1).foldl min (xs.getD 0 0) = xs.getD 0 0 := by
  cases xs with
  | nil => cases h
  | cons x l => show min x x = x; omega
theorem min_step {xs : List Int} {k : Nat} (h : k < xs.length) : min ((xs.take k).foldl min (xs.getD 0 0)) (xs.getD k 0) = (xs.take (k + 1)).foldl min (xs.getD 0 0) := by
  rw [take_succ_getD h, List.foldl_append]; rfl
theorem min_two (x y : Int) : minOf [x, y] = min x y := by show min (min x x) y = min x y; omega
def catL (L : List SV) : List Int := (L.map (·.xs)).flatten
theorem catL_step {L : List SV} {k : Nat} (h : k < L.length) : catL (L.take k) ++ (L.getD k sv0).xs = catL (L.take (k + 1)) := by
  rw [List.take_add_one, List.getElem?_eq_getElem h, List.getD_eq_getElem?_getD, List.getElem?_eq_getElem h]
  simp only [catL, Option.toList_some, Option.getD_some, List.map_append, List.map_cons, List.map_nil, List.flatten_append, List.flatten_cons, List.flatten_nil, List.append_nil]
theorem catL_len {L : List SV} {k : Nat} (h : k < L.length) : (catL (L.take (k + 1))).length = (catL (L.take k)).length + (L.getD k sv0).xs.length := by
  rw [← catL_step h, List.length_append]
theorem made_hi (b c : Nat) : Value.slice (if c = (0 : Int).toNat then some ⟨b, 0, none⟩ else (some ⟨b, 0, none⟩ : Option Addr).map (·.add ((0 : Int).toNat * 1))) ((0 : Int).toNat - (0 : Int).toNat) (c - (0 : Int).toNat) = .slice (some ⟨b, 0, none⟩) 0 c := by
  simp [Addr.add]

theorem el3 : Elem Try.prog 3 (vint 0) 1 8 := elem_of (by kernel_rfl) rfl (by decide)
theorem min_ret (xa : Option Addr) (xc : Nat) (xs : List Int) (w : World) (hx : Row w xa xs.length xc 1 (xs.map vint)) (hxn : xs.length ≤ 2097152) (h0 : 0 < xs.length) : Ret Try.prog 67 [.slice xa xs.length xc] w (fun v w' => v = vint (minOf xs) ∧ Ext w w') := by
 have hB := Below.refl w.heap.size w
 have hsz : w.heap.size ≤ w.heap.size := Nat.le_refl _
 refine ret_of_runs (args := [_]) Try.func67 rfl (Nat.le_of_ble_eq_true rfl) (by kernel_rfl) (r_seq (r_region' (l_q (qai rfl rfl) (l_nil (r_seq (r_seq (r_region' (l_q (qms rfl rfl) (l_q (q_len rfl Try.underlying26 rfl rfl) (l_q (q_lss rfl rfl rfl) (l_nil (r_cond rfl (fun hc1 => ?_) (fun hc1 => ?_)))))))))))))
 ·
  replace hc1 := dt hc1
  omega
 ·
  replace hc1 := dlt hc1
  refine r_skip (r_seq (r_region' (l_q (qms rfl rfl) ?_)))
  obtain ⟨b2, o2, ha2, hh2⟩ := (hx.below hB).at1 0 ((xs).getD 0 0) (getD_some (by omega))
  refine l_q (q_indexAddr1 Try.underlying26 Try.sizeOf3 rfl ha2 rfl (by omega) rfl) (l_q (q_load Try.isAgg3 rfl (hh2) rfl) (l_q (qai rfl rfl) (l_nil (r_seq (r_seq (r_region' (l_q (qai rfl rfl) (l_nil (r_block (r_rounds (α := Nat × Int) (fun ⟨k, m⟩ e wl => Knows e [(0, .slice xa xs.length xc), (3, vint m), (4, vint (k : Int))] ∧ (k ≤ xs.length) ∧ (m = (xs.take k).foldl min (xs.getD 0 0)) ∧ (w.heap.size ≤ wl.heap.size) ∧ (Below w.heap.size w wl)) (fun ⟨k, m⟩ => xs.length - k) (1, xs.getD 0 0) ?_ ?_))))))))))
  ·
   exact ⟨⟨rfl, rfl, rfl, trivial⟩, (by omega), (min_one h0).symm, hsz, hB⟩
  ·
   rintro ⟨k, m⟩ el3 wl3 ⟨hkn, hkk, hm, hsz, hB⟩ ih3
   obtain ⟨e3, rfl⟩ := knows_env hkn
   refine r_seq (r_seq (r_region' (l_q (qmi rfl rfl) (l_q (qms rfl rfl) (l_q (q_len rfl Try.underlying26 rfl rfl) (l_q (q_lss rfl rfl rfl) (l_nil (r_cond rfl (fun hc4 => ?_) (fun hc4 => ?_)))))))))
   ·
    replace hc4 := dt hc4
    refine r_skip (r_seq (r_block (r_region' (l_q (qmi rfl rfl) (l_q (qms rfl rfl) (l_q (qmi rfl rfl) ?_))))))
    obtain ⟨b5, o5, ha5, hh5⟩ := (hx.below hB).at1 k ((xs).getD k 0) (getD_some (by omega))
    refine l_q (q_indexAddr1 Try.underlying26 Try.sizeOf3 rfl ha5 rfl (by omega) rfl) (l_q (q_load Try.isAgg3 rfl (hh5) rfl) (l_q (q_min rfl rfl rfl) (l_q (qai rfl rfl) (l_nil (r_forget [(0, .slice _ _ _), (3, .int _ _), (4, .int _ _)] ⟨rfl, rfl, rfl, trivial⟩ (fun e6 => (r_inBlock (r_region' (l_q (qmi rfl rfl) (l_q (q_add rfl rfl (by omega) rfl) (l_q (qai rfl rfl) (l_nil ?_))))))))))))
    exact ih3 (k + 1, min m ((xs).getD k 0)) _ _ ⟨⟨rfl, rfl, by first | rfl | exact vint_eq (by omega), trivial⟩, (by omega), (by rw [hm]; exact min_step (by omega)), hsz, hB⟩ (by first | omega | (dsimp only; omega))
   ·
    replace hc4 := dlt hc4
    refine r_exit rfl (r_seq (r_region' (l_q (qmi rfl rfl) (l_q (qai rfl rfl) (l_nil (r_ret_ (vs := [.int _ _]) rfl Try.func67 rfl (.nil _) ⟨rfl, trivial⟩ ?_))))))
    exact ⟨vint_eq (by rw [hm, List.take_of_length_le (by omega)]; rfl), Ext.of_below hB⟩
theorem grow_ret (n : Int) (w : World) (hn : 0 ≤ n ∧ n ≤ 8796093022208) : Ret Try.prog 71 [.slice none 0 0, vint n] w (fun v w' => ∃ ra0 rc0, v = .slice ra0 (([] : List Int)).length rc0 ∧ w'.ownsRow w.heap.size 3 1 (.slice ra0 (([] : List Int)).length rc0) (([] : List Int)).length ((([] : List Int)).map vint) ∧ Ext w w') := by
 have hB := Below.refl w.heap.size w
 have hsz : w.heap.size ≤ w.heap.size := Nat.le_refl _
 refine ret_of_runs (args := [_, _]) Try.func71 rfl (Nat.le_of_ble_eq_true rfl) (by kernel_rfl) (r_seq (r_region' (l_q (qas rfl rfl) (l_nil (r_seq (r_seq (r_region' (l_q (qmi rfl rfl) (l_q (q_lss rfl rfl rfl) (l_nil (r_cond rfl (fun hc1 => ?_) (fun hc1 => ?_))))))))))))
 ·
  replace hc1 := dt hc1
  omega
 ·
  replace hc1 := dlt hc1
  refine r_skip (r_seq (r_seq (r_region' (l_q (qmi rfl rfl) (l_q (qms rfl rfl) (l_q (q_cap rfl Try.underlying26 rfl rfl) (l_q (qms rfl rfl) (l_q (q_len rfl Try.underlying26 rfl rfl) (l_q (q_sub rfl rfl (by omega) rfl) (l_q (q_sub rfl rfl (by omega) rfl) (l_q (qai rfl rfl) (l_nil (r_forget [(0, .slice _ _ _), (1, .int _ _)] ⟨rfl, rfl, trivial⟩ (fun e2 => (r_seq (r_region' (l_q (qmi rfl rfl) (l_q (q_gtr rfl rfl rfl) (l_nil (r_cond rfl (fun hc3 => ?_) (fun hc3 => ?_)))))))))))))))))))))
  ·
   replace hc3 := dt hc3
   refine r_region' (l_q (qms rfl rfl) (l_q (qms rfl rfl) (l_q (q_cap rfl Try.underlying26 rfl rfl) (l_q ((q_slice (lo := 0) (hi := (0 : Int)) Try.underlying26 Try.sizeOf3 rfl rfl rfl (by omega) (Nat.le_refl _) rfl).cast (v' := .slice none 0 0) (by rfl)) (l_q (qmi rfl rfl) ?_)))))
   obtain ⟨n4, hn4⟩ : ∃ m : Nat, n - ((0 : Int) - 0) = m := ⟨(n - ((0 : Int) - 0)).toNat, by omega⟩
   refine l_o (o_append_make (m := n4) Try.underlying26 Try.underlying3 el3 rfl rfl (vint_eq hn4) (by unfold maxLen; omega) (by omega) (by omega) rfl ?_)
   intro b4 c4 w4 hz4 hmc4 ho4 hE4
   replace hB := below_ext hB hE4 hsz
   replace hsz := Nat.le_trans hsz hE4.size
   refine l_q (qms rfl rfl) (l_q (q_len rfl Try.underlying26 rfl rfl) (l_q ((q_slice (lo := 0) (hi := 0) Try.underlying26 Try.sizeOf3 rfl rfl rfl (by omega) hmc4 rfl).cast (v' := .slice (some ⟨b4, 0, none⟩) 0 c4) (made_hi _ _)) (l_q (qas rfl rfl) (l_nil (r_forget [(0, .slice _ _ _)] ⟨rfl, trivial⟩ (fun e5 => (r_seq (r_region' (l_q (qms rfl rfl) (l_q (qas rfl rfl) (l_nil (r_ret_ (vs := [.slice _ _ _]) rfl Try.func71 rfl (.nil _) ⟨rfl, trivial⟩ ?_))))))))))))
   first | exact ⟨_, _, rfl, World.ownsRow_nil _ _ _ _, Ext.of_below hB⟩ | exact ⟨_, _, rfl, (by assumption), Ext.of_below hB⟩
  ·
   replace hc3 := dlt hc3
   refine r_skip (r_seq (r_region' (l_q (qms rfl rfl) (l_q (qas rfl rfl) (l_nil (r_ret_ (vs := [.slice _ _ _]) rfl Try.func71 rfl (.nil _) ⟨rfl, trivial⟩ ?_))))))
   first | exact ⟨_, _, rfl, World.ownsRow_nil _ _ _ _, Ext.of_below hB⟩ | exact ⟨_, _, rfl, (by assumption), Ext.of_below hB⟩
theorem concat_ret (la : Option Addr) (lc : Nat) (L : List SV) (w : World) (hl : Row w la L.length lc 1 (L.map SV.enc)) (hlr : RowsI w L) (hln : L.length ≤ 2097152) (hle : ∀ s ∈ L, s.xs.length ≤ 2097152) : Ret Try.prog 52 [.slice la L.length lc] w (fun v w' => ∃ ra0 rc0, v = .slice ra0 (catL L).length rc0 ∧ w'.ownsRow w.heap.size 3 1 (.slice ra0 (catL L).length rc0) (catL L).length ((catL L).map vint) ∧ Ext w w') := by
 have hB := Below.refl w.heap.size w
 have hsz : w.heap.size ≤ w.heap.size := Nat.le_refl _
 refine ret_of_runs (args := [_]) Try.func52 rfl (Nat.le_of_ble_eq_true rfl) (by kernel_rfl) (r_seq (r_region' (l_q (qas rfl rfl) (l_nil (r_seq (r_region' (l_q (qai rfl rfl) (l_nil (r_seq (r_seq (r_region' (l_q (qms rfl rfl) (l_q (q_len rfl Try.underlying22 rfl rfl) (l_q (qmi rfl rfl) (l_nil (r_block (r_rounds (α := Nat) (fun k e wl => Knows e [(0, .slice la L.length lc), (3, vint ((catL (L.take k)).length : Int)), (9, .slice la L.length lc), (10, vint (L.length : Int)), (11, vint (k : Int))] ∧ (k ≤ L.length) ∧ ((catL (L.take k)).length ≤ k * 2097152) ∧ (w.heap.size ≤ wl.heap.size) ∧ (Below w.heap.size w wl)) (fun k => L.length - k) 0 ?_ ?_)))))))))))))))))
 ·
  exact ⟨⟨rfl, rfl, rfl, rfl, rfl, trivial⟩, (Nat.zero_le _), (Nat.zero_le _), hsz, hB⟩
 ·
  rintro k el1 wl1 ⟨hkn, hkk, hc, hsz, hB⟩ ih1
  obtain ⟨e1, rfl⟩ := knows_env hkn
  refine r_seq (r_region' (l_q (q_lss rfl rfl rfl) (l_nil (r_seq (r_cond rfl (fun hc2 => ?_) (fun hc2 => ?_))))))
  ·
   replace hc2 := dt hc2
   have hkl : k < L.length := by omega
   have hel := hle _ (getD_lt (d := sv0) hkl)
   refine r_skip (r_seq (r_block (r_seq (r_region' ?_))))
   have hr4 := (hlr.below hB).get (i := k) (by omega)
   obtain ⟨b3, o3, ha3, hh3⟩ := (hl.below hB).at1 k ((L).getD k sv0) (getD_some (by omega))
   refine l_q (q_indexAddr1 Try.underlying22 Try.sizeOf26 rfl ha3 rfl (by omega) rfl) (l_q (q_load Try.isAgg26 rfl (hh3) rfl) (l_q (qas rfl rfl) (l_nil (r_seq (r_region' (l_q (qmi rfl rfl) (l_q (qms rfl rfl) (l_q (q_len rfl Try.underlying26 rfl rfl) (l_q (q_add rfl rfl (by omega) rfl) (l_q (qai rfl rfl) (l_nil (r_seq (r_region' (l_q (qmi rfl rfl) (l_q (q_lss rfl rfl rfl) (l_nil (r_cond rfl (fun hc5 => ?_) (fun hc5 => ?_))))))))))))))))))
   ·
    replace hc5 := dt hc5
    omega
   ·
    replace hc5 := dlt hc5
    refine r_skip (r_inBlock (r_region' (l_q (q_add rfl rfl (by omega) rfl) (l_q (qmi rfl rfl) (l_nil (r_forget [(0, .slice _ _ _), (3, .int _ _), (9, .slice _ _ _), (10, .int _ _), (11, .int _ _)] ⟨rfl, rfl, rfl, rfl, rfl, trivial⟩ (fun e6 => ?_)))))))
    exact ih1 (k + 1) _ _ ⟨⟨rfl, (vint_eq (by rw [catL_len hkl]; omega)), rfl, rfl, by first | rfl | exact vint_eq (by omega), trivial⟩, (by omega), (by rw [catL_len hkl]; omega), hsz, hB⟩ (by first | omega | (dsimp only; omega))
  ·
   replace hc2 := dlt hc2
   refine r_exit rfl (r_seq (r_region' (l_q (qmi rfl rfl) (l_o (o_call Try.call71 rfl (grow_ret _ _ (by omega)) rfl ?_)))))
   rintro _ w7 ⟨a7_0, c7_0, rfl, ho7_0, hE7⟩
   replace ho7_0 := own_mono ho7_0 (show w.heap.size ≤ _ by omega)
   replace hB := below_ext hB hE7 hsz
   replace hsz := Nat.le_trans hsz hE7.size
   refine l_q (qas rfl rfl) (l_nil (r_seq (r_seq (r_region' (l_q (qms rfl rfl) (l_q (q_len rfl Try.underlying22 rfl rfl) (l_q (qmi rfl rfl) (l_nil (r_block (r_rounds (α := Nat × (Option Addr) × Nat) (fun ⟨k, oa, oc⟩ e wl => Knows e [(6, .slice oa ((catL (L.take k)).length) oc), (25, .slice la L.length lc), (26, vint (L.length : Int)), (27, vint (k : Int))] ∧ (k ≤ L.length) ∧ ((catL (L.take k)).length ≤ k * 2097152) ∧ (wl.ownsRow w.heap.size 3 1 (.slice oa ((catL (L.take k)).length) oc) ((catL (L.take k)).length) ((catL (L.take k)).map vint)) ∧ (w.heap.size ≤ wl.heap.size) ∧ (Below w.heap.size w wl)) (fun ⟨k, oa, oc⟩ => L.length - k) (0, a7_0, c7_0) ?_ ?_))))))))))
   ·
    exact ⟨⟨rfl, rfl, rfl, rfl, trivial⟩, (Nat.zero_le _), (Nat.zero_le _), ho7_0, hsz, hB⟩
   ·
    rintro ⟨k, oa, oc⟩ el8 wl8 ⟨hkn, hkk, hc2, ho, hsz, hB⟩ ih8
    obtain ⟨e8, rfl⟩ := knows_env hkn
    refine r_seq (r_region' (l_q (q_lss rfl rfl rfl) (l_nil (r_seq (r_cond rfl (fun hc9 => ?_) (fun hc9 => ?_))))))
    ·
     replace hc9 := dt hc9
     have hkl : k < L.length := by omega
     have hel := hle _ (getD_lt (d := sv0) hkl)
     refine r_skip (r_seq (r_block (r_seq (r_region' ?_))))
     have hr11 := (hlr.below hB).get (i := k) (by omega)
     obtain ⟨b10, o10, ha10, hh10⟩ := (hl.below hB).at1 k ((L).getD k sv0) (getD_some (by omega))
     refine l_q (q_indexAddr1 Try.underlying22 Try.sizeOf26 rfl ha10 rfl (by omega) rfl) (l_q (q_load Try.isAgg26 rfl (hh10) rfl) (l_q (qas rfl rfl) (l_nil (r_region' (l_q (qms rfl rfl) (l_q (qms rfl rfl) (l_o (o_append_map (f := vint) (catL (L.take k)) (((L).getD k sv0).xs) Try.underlying26 el3 rfl rfl ho rfl hr11 (fun _ => rfl) (by (try simp only [List.length_append, List.length_cons, List.length_nil, List.length_take, List.length_drop, List.length_replicate]); omega) (by omega) rfl ?_))))))))
     intro a12 c12 w12 hz12 ho12 hG12
     replace hB := below_own hB hG12 ho (by omega) hsz
     replace hsz := Nat.le_trans hsz hG12.size
     refine l_q (qas rfl rfl) (l_nil (r_inBlock (r_region' (l_q (q_add rfl rfl (by omega) rfl) (l_q (qmi rfl rfl) (l_nil ?_))))))
     have hst := catL_step (L := L) (k := k) hkl
     exact ih8 (k + 1, a12, c12) _ _ ⟨⟨(congrArg (fun z => Value.slice _ (List.length z) _) hst), rfl, rfl, by first | rfl | exact vint_eq (by omega), trivial⟩, (by omega), (by rw [catL_len hkl]; omega), (hst ▸ ho12), hsz, hB⟩ (by first | omega | (dsimp only; omega))
    ·
     replace hc9 := dlt hc9
     refine r_exit rfl (r_seq (r_region' (l_q (qms rfl rfl) (l_q (qas rfl rfl) (l_nil (r_ret_ (vs := [.slice _ _ _]) rfl Try.func52 rfl (.nil _) ⟨rfl, trivial⟩ ?_))))))
     have hst : catL (L.take k) = catL L := by rw [List.take_of_length_le (by omega)]
     exact ⟨_, _, (congrArg (fun z => Value.slice _ (List.length z) _) hst), (hst ▸ ho), Ext.of_below hB⟩
end Go.Proofs.Ytbikicakdkbcgaa
