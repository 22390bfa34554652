/-
  No cell of these rows narrows 'for every input' (looked for: loops, veiled, ifaces, maps, wideKeys, modest, calm, conditions, laid).
  DERIVED. THE GIVEN ROWS OF THIS SEAT. 12 by the template 'for every input the law returns true; each argument reads behind the call as it read before'; 0 by the template 'total and deterministic' (their statements: YtgdanglidienmaaGreatTotals.lean).
  GIVEN WITH THE SEED: the statements are not yours to turn. If you find one false, say at which input.
  Laid BY PROGRAM, IN A SANDBOX (cutbox-rows.mjs): the forced cells as the released guide's own fill.sh prints them over the translation 8cb5bb5494daa632… (all of the seat's roots in one cut). By AI agents, Wed Nov 11 2026. No macro, syntax, notation, axiom, sorry.
-/
import Derived.Test.YtgdanglidienmaaGreatChecked
import GoSem.Claim
import GoSem.ClaimJoined
import GoSem.ClaimMapViews
import Derived.JoinedTies
import Derived.KernelRfl
namespace Go.Proofs.YtgdanglidienmaaGreat
/- THE CELL 'sum', in the pinned program and in every row, IS THE sha256 OF THE DUMP (.gsa) THAT YtgdanglidienmaaGreatProg.lean LOADS. Nothing in Lean hashes anything: it is a label: what it is worth is what the hold of that sum in a sandbox is worth. -/
noncomputable def Tryz.pinned : Pinned := { name := "ytgdanglidienmaagreat", sum := "8cb5bb5494daa632abf8bd33ffbbc303bb8ec443822f3f2161c8bfb9f7f19497", checked := Tryz.checked }
namespace Rows
def none {H : Type} : Left H := { results := [], args := [] }

/-- 'glisterlaw10.RotaRules': WHATEVER THE INPUT: true; the input reads as it did. -/
def rotaRulesSpec : ChangeSpec := { name := "rotaRules", fn := fun _ => fun
  | [d1, d2] => { results := [.lit (.bool true)], args := [d1, d2] }
  | _ => none }
def rotaRulesRow : OpenClaim := { program := "ytgdanglidienmaagreat", sum := "8cb5bb5494daa632abf8bd33ffbbc303bb8ec443822f3f2161c8bfb9f7f19497", func := "glister/glisterlaw10.RotaRules", spec := "rotaRules", unfollowed := true, recurses := true, plainKeys := false, apart := false }
def RotaRulesSaid : Prop := rotaRulesRow.holds Tryz.pinned (OpenSpec.ofChange rotaRulesSpec)

/-- ITS FALSE NEIGHBOUR: 'it returns false'. Refute it at one input. -/
def rotaRulesWrong : ChangeSpec := { name := "rotaRules", fn := fun _ => fun
  | [d1, d2] => { results := [.lit (.bool false)], args := [d1, d2] }
  | _ => none }
def RotaRulesWrongFalsely : Prop := rotaRulesRow.holds Tryz.pinned (OpenSpec.ofChange rotaRulesWrong)

/-- 'glisterlaw10.RotaFails': WHATEVER THE INPUT: true; the input reads as it did. -/
def rotaFailsSpec : ChangeSpec := { name := "rotaFails", fn := fun _ => fun
  | [d1, d2] => { results := [.lit (.bool true)], args := [d1, d2] }
  | _ => none }
def rotaFailsRow : OpenClaim := { program := "ytgdanglidienmaagreat", sum := "8cb5bb5494daa632abf8bd33ffbbc303bb8ec443822f3f2161c8bfb9f7f19497", func := "glister/glisterlaw10.RotaFails", spec := "rotaFails", unfollowed := true, recurses := true, plainKeys := false, apart := false }
def RotaFailsSaid : Prop := rotaFailsRow.holds Tryz.pinned (OpenSpec.ofChange rotaFailsSpec)

/-- ITS FALSE NEIGHBOUR: 'it returns false'. Refute it at one input. -/
def rotaFailsWrong : ChangeSpec := { name := "rotaFails", fn := fun _ => fun
  | [d1, d2] => { results := [.lit (.bool false)], args := [d1, d2] }
  | _ => none }
def RotaFailsWrongFalsely : Prop := rotaFailsRow.holds Tryz.pinned (OpenSpec.ofChange rotaFailsWrong)

/-- 'glisterlaw10.RotaEnough': WHATEVER THE INPUT: true; the input reads as it did. -/
def rotaEnoughSpec : ChangeSpec := { name := "rotaEnough", fn := fun _ => fun
  | [d] => { results := [.lit (.bool true)], args := [d] }
  | _ => none }
def rotaEnoughRow : OpenClaim := { program := "ytgdanglidienmaagreat", sum := "8cb5bb5494daa632abf8bd33ffbbc303bb8ec443822f3f2161c8bfb9f7f19497", func := "glister/glisterlaw10.RotaEnough", spec := "rotaEnough", unfollowed := true, recurses := true, plainKeys := false, apart := false }
def RotaEnoughSaid : Prop := rotaEnoughRow.holds Tryz.pinned (OpenSpec.ofChange rotaEnoughSpec)

/-- ITS FALSE NEIGHBOUR: 'it returns false'. Refute it at one input. -/
def rotaEnoughWrong : ChangeSpec := { name := "rotaEnough", fn := fun _ => fun
  | [d] => { results := [.lit (.bool false)], args := [d] }
  | _ => none }
def RotaEnoughWrongFalsely : Prop := rotaEnoughRow.holds Tryz.pinned (OpenSpec.ofChange rotaEnoughWrong)

/-- 'glisterlaw10.RotaMirrors': WHATEVER THE INPUT: true; the input reads as it did. -/
def rotaMirrorsSpec : ChangeSpec := { name := "rotaMirrors", fn := fun _ => fun
  | [d1, d2] => { results := [.lit (.bool true)], args := [d1, d2] }
  | _ => none }
def rotaMirrorsRow : OpenClaim := { program := "ytgdanglidienmaagreat", sum := "8cb5bb5494daa632abf8bd33ffbbc303bb8ec443822f3f2161c8bfb9f7f19497", func := "glister/glisterlaw10.RotaMirrors", spec := "rotaMirrors", unfollowed := true, recurses := true, plainKeys := false, apart := false }
def RotaMirrorsSaid : Prop := rotaMirrorsRow.holds Tryz.pinned (OpenSpec.ofChange rotaMirrorsSpec)

/-- ITS FALSE NEIGHBOUR: 'it returns false'. Refute it at one input. -/
def rotaMirrorsWrong : ChangeSpec := { name := "rotaMirrors", fn := fun _ => fun
  | [d1, d2] => { results := [.lit (.bool false)], args := [d1, d2] }
  | _ => none }
def RotaMirrorsWrongFalsely : Prop := rotaMirrorsRow.holds Tryz.pinned (OpenSpec.ofChange rotaMirrorsWrong)

/-- 'glisterlaw10.RotaCases': WHATEVER THE INPUT: true; the input reads as it did. -/
def rotaCasesSpec : ChangeSpec := { name := "rotaCases", fn := fun _ => fun
  | [d1, d2, d3] => { results := [.lit (.bool true)], args := [d1, d2, d3] }
  | _ => none }
def rotaCasesRow : OpenClaim := { program := "ytgdanglidienmaagreat", sum := "8cb5bb5494daa632abf8bd33ffbbc303bb8ec443822f3f2161c8bfb9f7f19497", func := "glister/glisterlaw10.RotaCases", spec := "rotaCases", unfollowed := true, recurses := true, plainKeys := false, apart := false }
def RotaCasesSaid : Prop := rotaCasesRow.holds Tryz.pinned (OpenSpec.ofChange rotaCasesSpec)

/-- ITS FALSE NEIGHBOUR: 'it returns false'. Refute it at one input. -/
def rotaCasesWrong : ChangeSpec := { name := "rotaCases", fn := fun _ => fun
  | [d1, d2, d3] => { results := [.lit (.bool false)], args := [d1, d2, d3] }
  | _ => none }
def RotaCasesWrongFalsely : Prop := rotaCasesRow.holds Tryz.pinned (OpenSpec.ofChange rotaCasesWrong)

/-- 'glisterlaw10.RotaLater': WHATEVER THE INPUT: true; the input reads as it did. -/
def rotaLaterSpec : ChangeSpec := { name := "rotaLater", fn := fun _ => fun
  | [d1, d2, d3, d4, d5] => { results := [.lit (.bool true)], args := [d1, d2, d3, d4, d5] }
  | _ => none }
def rotaLaterRow : OpenClaim := { program := "ytgdanglidienmaagreat", sum := "8cb5bb5494daa632abf8bd33ffbbc303bb8ec443822f3f2161c8bfb9f7f19497", func := "glister/glisterlaw10.RotaLater", spec := "rotaLater", unfollowed := true, recurses := true, plainKeys := false, apart := false }
def RotaLaterSaid : Prop := rotaLaterRow.holds Tryz.pinned (OpenSpec.ofChange rotaLaterSpec)

/-- ITS FALSE NEIGHBOUR: 'it returns false'. Refute it at one input. -/
def rotaLaterWrong : ChangeSpec := { name := "rotaLater", fn := fun _ => fun
  | [d1, d2, d3, d4, d5] => { results := [.lit (.bool false)], args := [d1, d2, d3, d4, d5] }
  | _ => none }
def RotaLaterWrongFalsely : Prop := rotaLaterRow.holds Tryz.pinned (OpenSpec.ofChange rotaLaterWrong)

/-- 'glisterlaw10.RotaSmallest': WHATEVER THE INPUT: true; the input reads as it did. -/
def rotaSmallestSpec : ChangeSpec := { name := "rotaSmallest", fn := fun _ => fun
  | [d1, d2] => { results := [.lit (.bool true)], args := [d1, d2] }
  | _ => none }
def rotaSmallestRow : OpenClaim := { program := "ytgdanglidienmaagreat", sum := "8cb5bb5494daa632abf8bd33ffbbc303bb8ec443822f3f2161c8bfb9f7f19497", func := "glister/glisterlaw10.RotaSmallest", spec := "rotaSmallest", unfollowed := true, recurses := true, plainKeys := false, apart := false }
def RotaSmallestSaid : Prop := rotaSmallestRow.holds Tryz.pinned (OpenSpec.ofChange rotaSmallestSpec)

/-- ITS FALSE NEIGHBOUR: 'it returns false'. Refute it at one input. -/
def rotaSmallestWrong : ChangeSpec := { name := "rotaSmallest", fn := fun _ => fun
  | [d1, d2] => { results := [.lit (.bool false)], args := [d1, d2] }
  | _ => none }
def RotaSmallestWrongFalsely : Prop := rotaSmallestRow.holds Tryz.pinned (OpenSpec.ofChange rotaSmallestWrong)

/-- 'glisterlaw10.RotaPolished': WHATEVER THE INPUT: true; the input reads as it did. -/
def rotaPolishedSpec : ChangeSpec := { name := "rotaPolished", fn := fun _ => fun
  | [d1, d2, d3, d4, d5] => { results := [.lit (.bool true)], args := [d1, d2, d3, d4, d5] }
  | _ => none }
def rotaPolishedRow : OpenClaim := { program := "ytgdanglidienmaagreat", sum := "8cb5bb5494daa632abf8bd33ffbbc303bb8ec443822f3f2161c8bfb9f7f19497", func := "glister/glisterlaw10.RotaPolished", spec := "rotaPolished", unfollowed := true, recurses := true, plainKeys := false, apart := false }
def RotaPolishedSaid : Prop := rotaPolishedRow.holds Tryz.pinned (OpenSpec.ofChange rotaPolishedSpec)

/-- ITS FALSE NEIGHBOUR: 'it returns false'. Refute it at one input. -/
def rotaPolishedWrong : ChangeSpec := { name := "rotaPolished", fn := fun _ => fun
  | [d1, d2, d3, d4, d5] => { results := [.lit (.bool false)], args := [d1, d2, d3, d4, d5] }
  | _ => none }
def RotaPolishedWrongFalsely : Prop := rotaPolishedRow.holds Tryz.pinned (OpenSpec.ofChange rotaPolishedWrong)

/-- 'glisterlaw10.RotaBest': WHATEVER THE INPUT: true; the input reads as it did. -/
def rotaBestSpec : ChangeSpec := { name := "rotaBest", fn := fun _ => fun
  | [d1, d2, d3] => { results := [.lit (.bool true)], args := [d1, d2, d3] }
  | _ => none }
def rotaBestRow : OpenClaim := { program := "ytgdanglidienmaagreat", sum := "8cb5bb5494daa632abf8bd33ffbbc303bb8ec443822f3f2161c8bfb9f7f19497", func := "glister/glisterlaw10.RotaBest", spec := "rotaBest", unfollowed := true, recurses := true, plainKeys := false, apart := false }
def RotaBestSaid : Prop := rotaBestRow.holds Tryz.pinned (OpenSpec.ofChange rotaBestSpec)

/-- ITS FALSE NEIGHBOUR: 'it returns false'. Refute it at one input. -/
def rotaBestWrong : ChangeSpec := { name := "rotaBest", fn := fun _ => fun
  | [d1, d2, d3] => { results := [.lit (.bool false)], args := [d1, d2, d3] }
  | _ => none }
def RotaBestWrongFalsely : Prop := rotaBestRow.holds Tryz.pinned (OpenSpec.ofChange rotaBestWrong)

/-- 'glisterlaw10.RotaSafe': WHATEVER THE INPUT: true; the input reads as it did. -/
def rotaSafeSpec : ChangeSpec := { name := "rotaSafe", fn := fun _ => fun
  | [d] => { results := [.lit (.bool true)], args := [d] }
  | _ => none }
def rotaSafeRow : OpenClaim := { program := "ytgdanglidienmaagreat", sum := "8cb5bb5494daa632abf8bd33ffbbc303bb8ec443822f3f2161c8bfb9f7f19497", func := "glister/glisterlaw10.RotaSafe", spec := "rotaSafe", unfollowed := true, recurses := true, plainKeys := false, apart := false }
def RotaSafeSaid : Prop := rotaSafeRow.holds Tryz.pinned (OpenSpec.ofChange rotaSafeSpec)

/-- ITS FALSE NEIGHBOUR: 'it returns false'. Refute it at one input. -/
def rotaSafeWrong : ChangeSpec := { name := "rotaSafe", fn := fun _ => fun
  | [d] => { results := [.lit (.bool false)], args := [d] }
  | _ => none }
def RotaSafeWrongFalsely : Prop := rotaSafeRow.holds Tryz.pinned (OpenSpec.ofChange rotaSafeWrong)

/-- 'glisterlaw10.RotaFewest': WHATEVER THE INPUT: true; the input reads as it did. -/
def rotaFewestSpec : ChangeSpec := { name := "rotaFewest", fn := fun _ => fun
  | [d1, d2] => { results := [.lit (.bool true)], args := [d1, d2] }
  | _ => none }
def rotaFewestRow : OpenClaim := { program := "ytgdanglidienmaagreat", sum := "8cb5bb5494daa632abf8bd33ffbbc303bb8ec443822f3f2161c8bfb9f7f19497", func := "glister/glisterlaw10.RotaFewest", spec := "rotaFewest", unfollowed := true, recurses := true, plainKeys := false, apart := false }
def RotaFewestSaid : Prop := rotaFewestRow.holds Tryz.pinned (OpenSpec.ofChange rotaFewestSpec)

/-- ITS FALSE NEIGHBOUR: 'it returns false'. Refute it at one input. -/
def rotaFewestWrong : ChangeSpec := { name := "rotaFewest", fn := fun _ => fun
  | [d1, d2] => { results := [.lit (.bool false)], args := [d1, d2] }
  | _ => none }
def RotaFewestWrongFalsely : Prop := rotaFewestRow.holds Tryz.pinned (OpenSpec.ofChange rotaFewestWrong)

/-- 'glistertop.TopManned': WHATEVER THE INPUT: true; the input reads as it did. -/
def topMannedSpec : ChangeSpec := { name := "topManned", fn := fun _ => fun
  | [d1, d2, d3, d4, d5] => { results := [.lit (.bool true)], args := [d1, d2, d3, d4, d5] }
  | _ => none }
def topMannedRow : OpenClaim := { program := "ytgdanglidienmaagreat", sum := "8cb5bb5494daa632abf8bd33ffbbc303bb8ec443822f3f2161c8bfb9f7f19497", func := "glister/glistertop.TopManned", spec := "topManned", unfollowed := true, recurses := true, plainKeys := false, apart := false }
def TopMannedSaid : Prop := topMannedRow.holds Tryz.pinned (OpenSpec.ofChange topMannedSpec)

/-- ITS FALSE NEIGHBOUR: 'it returns false'. Refute it at one input. -/
def topMannedWrong : ChangeSpec := { name := "topManned", fn := fun _ => fun
  | [d1, d2, d3, d4, d5] => { results := [.lit (.bool false)], args := [d1, d2, d3, d4, d5] }
  | _ => none }
def TopMannedWrongFalsely : Prop := topMannedRow.holds Tryz.pinned (OpenSpec.ofChange topMannedWrong)

/- THE SECOND FORM. 'bulk': how many values and letters a reading holds, each counted each time it is reached (what is shared counts as often as it is met; a slice's spare places count too). A statement '..UptoSaid' is the law's where the arguments, and the package variables that the reading takes, are together of bulk at most 1048576: NARROWER than '..Said'. Prove '..Said' where nothing that the law and all that it calls make is longer than what came in: it says more and counts as full. Else prove '..UptoSaid'. A law counts once. -/
mutual
def uptoBulk {H : Type} : DataW H → Nat
  | .lit (.string bytes) => bytes.length + 1
  | .lit _ => 1
  | .nil => 1
  | .ptr d => uptoBulk d + 1
  | .slice elems spare => uptoBulkAll elems + uptoBulkAll spare + 1
  | .agg parts => uptoBulkAll parts + 1
  | .iface _ d => uptoBulk d + 1
  | .map entries => uptoBulkEntries entries + 1
  | .held _ => 1
def uptoBulkAll {H : Type} : List (DataW H) → Nat
  | [] => 0
  | d :: r => uptoBulk d + uptoBulkAll r
def uptoBulkEntries {H : Type} : List (Lit × DataW H) → Nat
  | [] => 0
  | x :: r => uptoBulkEntry x + uptoBulkEntries r
def uptoBulkEntry {H : Type} : Lit × DataW H → Nat
  | (.string bytes, d) => bytes.length + uptoBulk d + 1
  | (_, d) => uptoBulk d + 1
 end
def uptoSmall : (H : Type) → List (DataW H) → Bool := fun _ ds => decide (uptoBulkAll ds ≤ 1048576)
def OpenSpec.upto (s : _root_.Go.ChangeSpec) : _root_.Go.OpenSpec := { _root_.Go.OpenSpec.ofChange s with cond := some uptoSmall }

/-- 'glisterlaw10.RotaRules', WHERE WHAT IT READS IS OF BULK AT MOST 1048576: true; the input reads as it did. -/
def rotaRulesUptoRow : OpenClaim := { program := "ytgdanglidienmaagreat", sum := "8cb5bb5494daa632abf8bd33ffbbc303bb8ec443822f3f2161c8bfb9f7f19497", func := "glister/glisterlaw10.RotaRules", spec := "rotaRules", unfollowed := true, recurses := true, plainKeys := false, apart := false, narrowed := true }
def RotaRulesUptoSaid : Prop := rotaRulesUptoRow.holds Tryz.pinned (OpenSpec.upto rotaRulesSpec)

/-- 'glisterlaw10.RotaFails', WHERE WHAT IT READS IS OF BULK AT MOST 1048576: true; the input reads as it did. -/
def rotaFailsUptoRow : OpenClaim := { program := "ytgdanglidienmaagreat", sum := "8cb5bb5494daa632abf8bd33ffbbc303bb8ec443822f3f2161c8bfb9f7f19497", func := "glister/glisterlaw10.RotaFails", spec := "rotaFails", unfollowed := true, recurses := true, plainKeys := false, apart := false, narrowed := true }
def RotaFailsUptoSaid : Prop := rotaFailsUptoRow.holds Tryz.pinned (OpenSpec.upto rotaFailsSpec)

/-- 'glisterlaw10.RotaEnough', WHERE WHAT IT READS IS OF BULK AT MOST 1048576: true; the input reads as it did. -/
def rotaEnoughUptoRow : OpenClaim := { program := "ytgdanglidienmaagreat", sum := "8cb5bb5494daa632abf8bd33ffbbc303bb8ec443822f3f2161c8bfb9f7f19497", func := "glister/glisterlaw10.RotaEnough", spec := "rotaEnough", unfollowed := true, recurses := true, plainKeys := false, apart := false, narrowed := true }
def RotaEnoughUptoSaid : Prop := rotaEnoughUptoRow.holds Tryz.pinned (OpenSpec.upto rotaEnoughSpec)

/-- 'glisterlaw10.RotaMirrors', WHERE WHAT IT READS IS OF BULK AT MOST 1048576: true; the input reads as it did. -/
def rotaMirrorsUptoRow : OpenClaim := { program := "ytgdanglidienmaagreat", sum := "8cb5bb5494daa632abf8bd33ffbbc303bb8ec443822f3f2161c8bfb9f7f19497", func := "glister/glisterlaw10.RotaMirrors", spec := "rotaMirrors", unfollowed := true, recurses := true, plainKeys := false, apart := false, narrowed := true }
def RotaMirrorsUptoSaid : Prop := rotaMirrorsUptoRow.holds Tryz.pinned (OpenSpec.upto rotaMirrorsSpec)

/-- 'glisterlaw10.RotaCases', WHERE WHAT IT READS IS OF BULK AT MOST 1048576: true; the input reads as it did. -/
def rotaCasesUptoRow : OpenClaim := { program := "ytgdanglidienmaagreat", sum := "8cb5bb5494daa632abf8bd33ffbbc303bb8ec443822f3f2161c8bfb9f7f19497", func := "glister/glisterlaw10.RotaCases", spec := "rotaCases", unfollowed := true, recurses := true, plainKeys := false, apart := false, narrowed := true }
def RotaCasesUptoSaid : Prop := rotaCasesUptoRow.holds Tryz.pinned (OpenSpec.upto rotaCasesSpec)

/-- 'glisterlaw10.RotaLater', WHERE WHAT IT READS IS OF BULK AT MOST 1048576: true; the input reads as it did. -/
def rotaLaterUptoRow : OpenClaim := { program := "ytgdanglidienmaagreat", sum := "8cb5bb5494daa632abf8bd33ffbbc303bb8ec443822f3f2161c8bfb9f7f19497", func := "glister/glisterlaw10.RotaLater", spec := "rotaLater", unfollowed := true, recurses := true, plainKeys := false, apart := false, narrowed := true }
def RotaLaterUptoSaid : Prop := rotaLaterUptoRow.holds Tryz.pinned (OpenSpec.upto rotaLaterSpec)

/-- 'glisterlaw10.RotaSmallest', WHERE WHAT IT READS IS OF BULK AT MOST 1048576: true; the input reads as it did. -/
def rotaSmallestUptoRow : OpenClaim := { program := "ytgdanglidienmaagreat", sum := "8cb5bb5494daa632abf8bd33ffbbc303bb8ec443822f3f2161c8bfb9f7f19497", func := "glister/glisterlaw10.RotaSmallest", spec := "rotaSmallest", unfollowed := true, recurses := true, plainKeys := false, apart := false, narrowed := true }
def RotaSmallestUptoSaid : Prop := rotaSmallestUptoRow.holds Tryz.pinned (OpenSpec.upto rotaSmallestSpec)

/-- 'glisterlaw10.RotaPolished', WHERE WHAT IT READS IS OF BULK AT MOST 1048576: true; the input reads as it did. -/
def rotaPolishedUptoRow : OpenClaim := { program := "ytgdanglidienmaagreat", sum := "8cb5bb5494daa632abf8bd33ffbbc303bb8ec443822f3f2161c8bfb9f7f19497", func := "glister/glisterlaw10.RotaPolished", spec := "rotaPolished", unfollowed := true, recurses := true, plainKeys := false, apart := false, narrowed := true }
def RotaPolishedUptoSaid : Prop := rotaPolishedUptoRow.holds Tryz.pinned (OpenSpec.upto rotaPolishedSpec)

/-- 'glisterlaw10.RotaBest', WHERE WHAT IT READS IS OF BULK AT MOST 1048576: true; the input reads as it did. -/
def rotaBestUptoRow : OpenClaim := { program := "ytgdanglidienmaagreat", sum := "8cb5bb5494daa632abf8bd33ffbbc303bb8ec443822f3f2161c8bfb9f7f19497", func := "glister/glisterlaw10.RotaBest", spec := "rotaBest", unfollowed := true, recurses := true, plainKeys := false, apart := false, narrowed := true }
def RotaBestUptoSaid : Prop := rotaBestUptoRow.holds Tryz.pinned (OpenSpec.upto rotaBestSpec)

/-- 'glisterlaw10.RotaSafe', WHERE WHAT IT READS IS OF BULK AT MOST 1048576: true; the input reads as it did. -/
def rotaSafeUptoRow : OpenClaim := { program := "ytgdanglidienmaagreat", sum := "8cb5bb5494daa632abf8bd33ffbbc303bb8ec443822f3f2161c8bfb9f7f19497", func := "glister/glisterlaw10.RotaSafe", spec := "rotaSafe", unfollowed := true, recurses := true, plainKeys := false, apart := false, narrowed := true }
def RotaSafeUptoSaid : Prop := rotaSafeUptoRow.holds Tryz.pinned (OpenSpec.upto rotaSafeSpec)

/-- 'glisterlaw10.RotaFewest', WHERE WHAT IT READS IS OF BULK AT MOST 1048576: true; the input reads as it did. -/
def rotaFewestUptoRow : OpenClaim := { program := "ytgdanglidienmaagreat", sum := "8cb5bb5494daa632abf8bd33ffbbc303bb8ec443822f3f2161c8bfb9f7f19497", func := "glister/glisterlaw10.RotaFewest", spec := "rotaFewest", unfollowed := true, recurses := true, plainKeys := false, apart := false, narrowed := true }
def RotaFewestUptoSaid : Prop := rotaFewestUptoRow.holds Tryz.pinned (OpenSpec.upto rotaFewestSpec)

/-- 'glistertop.TopManned', WHERE WHAT IT READS IS OF BULK AT MOST 1048576: true; the input reads as it did. -/
def topMannedUptoRow : OpenClaim := { program := "ytgdanglidienmaagreat", sum := "8cb5bb5494daa632abf8bd33ffbbc303bb8ec443822f3f2161c8bfb9f7f19497", func := "glister/glistertop.TopManned", spec := "topManned", unfollowed := true, recurses := true, plainKeys := false, apart := false, narrowed := true }
def TopMannedUptoSaid : Prop := topMannedUptoRow.holds Tryz.pinned (OpenSpec.upto topMannedSpec)

end Rows
end Go.Proofs.YtgdanglidienmaaGreat
