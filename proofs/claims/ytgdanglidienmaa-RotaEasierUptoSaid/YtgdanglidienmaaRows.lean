/-
  No cell of these rows narrows 'for every input' (looked for: loops, veiled, ifaces, maps, wideKeys, modest, calm, conditions, laid).
  DERIVED. THE GIVEN ROWS OF THIS SEAT. 3 by the template 'for every input the law returns true; each argument reads behind the call as it read before'; 0 by the template 'total and deterministic' (their statements: YtgdanglidienmaaTotals.lean).
  GIVEN WITH THE SEED: the statements are not yours to turn. If you find one false, say at which input.
  Laid BY PROGRAM, IN A SANDBOX (cutbox-rows.mjs): the forced cells as the released guide's own fill.sh prints them over the translation 15dbc68319c06828… (all of the seat's roots in one cut). By AI agents, Wed Nov 11 2026. No macro, syntax, notation, axiom, sorry.
-/
import Derived.Test.YtgdanglidienmaaChecked
import GoSem.Claim
import GoSem.ClaimJoined
import GoSem.ClaimMapViews
import Derived.JoinedTies
import Derived.KernelRfl
namespace Go.Proofs.Ytgdanglidienmaa
/- THE CELL 'sum', in the pinned program and in every row, IS THE sha256 OF THE DUMP (.gsa) THAT YtgdanglidienmaaProg.lean LOADS. Nothing in Lean hashes anything: it is a label: what it is worth is what the hold of that sum in a sandbox is worth. -/
noncomputable def Try.pinned : Pinned := { name := "ytgdanglidienmaa", sum := "15dbc68319c068288cfa50cd968292f576fe1365c39cb94a41e508911beebcac", checked := Try.checked }
namespace Rows
def none {H : Type} : Left H := { results := [], args := [] }

/-- 'glisterlaw10.RotaEasier': WHATEVER THE INPUT: true; the input reads as it did. -/
def rotaEasierSpec : ChangeSpec := { name := "rotaEasier", fn := fun _ => fun
  | [d1, d2, d3, d4] => { results := [.lit (.bool true)], args := [d1, d2, d3, d4] }
  | _ => none }
def rotaEasierRow : OpenClaim := { program := "ytgdanglidienmaa", sum := "15dbc68319c068288cfa50cd968292f576fe1365c39cb94a41e508911beebcac", func := "glister/glisterlaw10.RotaEasier", spec := "rotaEasier", unfollowed := true, recurses := true, plainKeys := false, apart := false }
def RotaEasierSaid : Prop := rotaEasierRow.holds Try.pinned (OpenSpec.ofChange rotaEasierSpec)

/-- ITS FALSE NEIGHBOUR: 'it returns false'. Refute it at one input. -/
def rotaEasierWrong : ChangeSpec := { name := "rotaEasier", fn := fun _ => fun
  | [d1, d2, d3, d4] => { results := [.lit (.bool false)], args := [d1, d2, d3, d4] }
  | _ => none }
def RotaEasierWrongFalsely : Prop := rotaEasierRow.holds Try.pinned (OpenSpec.ofChange rotaEasierWrong)

/-- 'glisterlaw10.RotaBright': WHATEVER THE INPUT: true; the input reads as it did. -/
def rotaBrightSpec : ChangeSpec := { name := "rotaBright", fn := fun _ => fun
  | [d1, d2, d3] => { results := [.lit (.bool true)], args := [d1, d2, d3] }
  | _ => none }
def rotaBrightRow : OpenClaim := { program := "ytgdanglidienmaa", sum := "15dbc68319c068288cfa50cd968292f576fe1365c39cb94a41e508911beebcac", func := "glister/glisterlaw10.RotaBright", spec := "rotaBright", unfollowed := true, recurses := true, plainKeys := false, apart := false }
def RotaBrightSaid : Prop := rotaBrightRow.holds Try.pinned (OpenSpec.ofChange rotaBrightSpec)

/-- ITS FALSE NEIGHBOUR: 'it returns false'. Refute it at one input. -/
def rotaBrightWrong : ChangeSpec := { name := "rotaBright", fn := fun _ => fun
  | [d1, d2, d3] => { results := [.lit (.bool false)], args := [d1, d2, d3] }
  | _ => none }
def RotaBrightWrongFalsely : Prop := rotaBrightRow.holds Try.pinned (OpenSpec.ofChange rotaBrightWrong)

/-- 'glisterlaw10.RotaNames': WHATEVER THE INPUT: true; the input reads as it did. -/
def rotaNamesSpec : ChangeSpec := { name := "rotaNames", fn := fun _ => fun
  | [] => { results := [.lit (.bool true)], args := [] }
  | _ => none }
def rotaNamesRow : OpenClaim := { program := "ytgdanglidienmaa", sum := "15dbc68319c068288cfa50cd968292f576fe1365c39cb94a41e508911beebcac", func := "glister/glisterlaw10.RotaNames", spec := "rotaNames", unfollowed := true, recurses := true, plainKeys := false, apart := false }
def RotaNamesSaid : Prop := rotaNamesRow.holds Try.pinned (OpenSpec.ofChange rotaNamesSpec)

/-- ITS FALSE NEIGHBOUR: 'it returns false'. Refute it at one input. -/
def rotaNamesWrong : ChangeSpec := { name := "rotaNames", fn := fun _ => fun
  | [] => { results := [.lit (.bool false)], args := [] }
  | _ => none }
def RotaNamesWrongFalsely : Prop := rotaNamesRow.holds Try.pinned (OpenSpec.ofChange rotaNamesWrong)

/- THE SECOND FORM. 'bulk': how many values and letters a reading holds, each counted each time it is reached (what is shared counts as often as it is met; a slice's spare places count too). A statement '..UptoSaid' is the law's where the arguments, and the package variables that the reading takes, are together of bulk at most 1048576: NARROWER than '..Said'. Prove '..Said' where nothing that the law and all that it calls make is longer than what came in: it says more and counts as full. Else prove '..UptoSaid'. A law counts once. -/
mutual
def uptoBulk {H : Type} : DataW H → Nat
  | .lit (.string bytes) => bytes.length + 1
  | .lit _ => 1
  | .nil => 1
  | .ptr d => uptoBulk d + 1
  | .slice elems spare => uptoBulkAll elems + uptoBulkAll spare + 1
  | .agg parts => uptoBulkAll parts + 1
  | .iface _ d => uptoBulk d + 1
  | .map entries => uptoBulkEntries entries + 1
  | .held _ => 1
def uptoBulkAll {H : Type} : List (DataW H) → Nat
  | [] => 0
  | d :: r => uptoBulk d + uptoBulkAll r
def uptoBulkEntries {H : Type} : List (Lit × DataW H) → Nat
  | [] => 0
  | x :: r => uptoBulkEntry x + uptoBulkEntries r
def uptoBulkEntry {H : Type} : Lit × DataW H → Nat
  | (.string bytes, d) => bytes.length + uptoBulk d + 1
  | (_, d) => uptoBulk d + 1
 end
def uptoSmall : (H : Type) → List (DataW H) → Bool := fun _ ds => decide (uptoBulkAll ds ≤ 1048576)
def OpenSpec.upto (s : _root_.Go.ChangeSpec) : _root_.Go.OpenSpec := { _root_.Go.OpenSpec.ofChange s with cond := some uptoSmall }

/-- 'glisterlaw10.RotaEasier', WHERE WHAT IT READS IS OF BULK AT MOST 1048576: true; the input reads as it did. -/
def rotaEasierUptoRow : OpenClaim := { program := "ytgdanglidienmaa", sum := "15dbc68319c068288cfa50cd968292f576fe1365c39cb94a41e508911beebcac", func := "glister/glisterlaw10.RotaEasier", spec := "rotaEasier", unfollowed := true, recurses := true, plainKeys := false, apart := false, narrowed := true }
def RotaEasierUptoSaid : Prop := rotaEasierUptoRow.holds Try.pinned (OpenSpec.upto rotaEasierSpec)

/-- 'glisterlaw10.RotaBright', WHERE WHAT IT READS IS OF BULK AT MOST 1048576: true; the input reads as it did. -/
def rotaBrightUptoRow : OpenClaim := { program := "ytgdanglidienmaa", sum := "15dbc68319c068288cfa50cd968292f576fe1365c39cb94a41e508911beebcac", func := "glister/glisterlaw10.RotaBright", spec := "rotaBright", unfollowed := true, recurses := true, plainKeys := false, apart := false, narrowed := true }
def RotaBrightUptoSaid : Prop := rotaBrightUptoRow.holds Try.pinned (OpenSpec.upto rotaBrightSpec)

/-- 'glisterlaw10.RotaNames', WHERE WHAT IT READS IS OF BULK AT MOST 1048576: true; the input reads as it did. -/
def rotaNamesUptoRow : OpenClaim := { program := "ytgdanglidienmaa", sum := "15dbc68319c068288cfa50cd968292f576fe1365c39cb94a41e508911beebcac", func := "glister/glisterlaw10.RotaNames", spec := "rotaNames", unfollowed := true, recurses := true, plainKeys := false, apart := false, narrowed := true }
def RotaNamesUptoSaid : Prop := rotaNamesUptoRow.holds Try.pinned (OpenSpec.upto rotaNamesSpec)

end Rows
end Go.Proofs.Ytgdanglidienmaa
