/-
  No cell of these rows narrows 'for every input' (looked for: loops, veiled, ifaces, maps, wideKeys, modest, calm, conditions, laid).
  DERIVED. THE GIVEN ROWS OF THIS SEAT. 14 by the template 'for every input the law returns true; each argument reads behind the call as it read before'; 0 by the template 'total and deterministic' (their statements: YtkcbgpilfegofaaTotals.lean).
  GIVEN WITH THE SEED: the statements are not yours to turn. If you find one false, say at which input.
  Laid BY PROGRAM, IN A SANDBOX (cutbox-rows.mjs): the forced cells as the released guide's own fill.sh prints them over the translation f83744e403ebc684… (all of the seat's roots in one cut). By AI agents, Wed Nov 11 2026. No macro, syntax, notation, axiom, sorry.
-/
import Derived.Test.YtkcbgpilfegofaaChecked
import GoSem.Claim
import GoSem.ClaimJoined
import GoSem.ClaimMapViews
import Derived.JoinedTies
import Derived.KernelRfl
namespace Go.Proofs.Ytkcbgpilfegofaa
/- THE CELL 'sum', in the pinned program and in every row, IS THE sha256 OF THE DUMP (.gsa) THAT YtkcbgpilfegofaaProg.lean LOADS. Nothing in Lean hashes anything: it is a label: what it is worth is what the hold of that sum in a sandbox is worth. -/
noncomputable def Try.pinned : Pinned := { name := "ytkcbgpilfegofaa", sum := "f83744e403ebc6843a74e35d61dcf907c0e04c45782e1322ff216b0ac05729aa", checked := Try.checked }
namespace Rows
def none {H : Type} : Left H := { results := [], args := [] }

/-- 'glisterlaw02.FlashSends': WHATEVER THE INPUT: true; the input reads as it did. -/
def flashSendsSpec : ChangeSpec := { name := "flashSends", fn := fun _ => fun
  | [d1, d2] => { results := [.lit (.bool true)], args := [d1, d2] }
  | _ => none }
def flashSendsRow : OpenClaim := { program := "ytkcbgpilfegofaa", sum := "f83744e403ebc6843a74e35d61dcf907c0e04c45782e1322ff216b0ac05729aa", func := "glister/glisterlaw02.FlashSends", spec := "flashSends", inPlace := ["internal/bytealg.IndexByteString", "internal/abi.NoEscape", "internal/bytealg.MakeNoZero"], unfollowed := true, recurses := true, plainKeys := false, apart := false }
def FlashSendsSaid : Prop := flashSendsRow.holds Try.pinned (OpenSpec.ofChange flashSendsSpec)

/-- ITS FALSE NEIGHBOUR: 'it returns false'. Refute it at one input. -/
def flashSendsWrong : ChangeSpec := { name := "flashSends", fn := fun _ => fun
  | [d1, d2] => { results := [.lit (.bool false)], args := [d1, d2] }
  | _ => none }
def FlashSendsWrongFalsely : Prop := flashSendsRow.holds Try.pinned (OpenSpec.ofChange flashSendsWrong)

/-- 'glisterlaw02.FlashErrs': WHATEVER THE INPUT: true; the input reads as it did. -/
def flashErrsSpec : ChangeSpec := { name := "flashErrs", fn := fun _ => fun
  | [d1, d2] => { results := [.lit (.bool true)], args := [d1, d2] }
  | _ => none }
def flashErrsRow : OpenClaim := { program := "ytkcbgpilfegofaa", sum := "f83744e403ebc6843a74e35d61dcf907c0e04c45782e1322ff216b0ac05729aa", func := "glister/glisterlaw02.FlashErrs", spec := "flashErrs", inPlace := ["internal/bytealg.IndexByteString", "internal/abi.NoEscape", "internal/bytealg.MakeNoZero"], unfollowed := true, recurses := true, plainKeys := false, apart := false }
def FlashErrsSaid : Prop := flashErrsRow.holds Try.pinned (OpenSpec.ofChange flashErrsSpec)

/-- ITS FALSE NEIGHBOUR: 'it returns false'. Refute it at one input. -/
def flashErrsWrong : ChangeSpec := { name := "flashErrs", fn := fun _ => fun
  | [d1, d2] => { results := [.lit (.bool false)], args := [d1, d2] }
  | _ => none }
def FlashErrsWrongFalsely : Prop := flashErrsRow.holds Try.pinned (OpenSpec.ofChange flashErrsWrong)

/-- 'glisterlaw02.FlashTexts': WHATEVER THE INPUT: true; the input reads as it did. -/
def flashTextsSpec : ChangeSpec := { name := "flashTexts", fn := fun _ => fun
  | [d1, d2, d3, d4] => { results := [.lit (.bool true)], args := [d1, d2, d3, d4] }
  | _ => none }
def flashTextsRow : OpenClaim := { program := "ytkcbgpilfegofaa", sum := "f83744e403ebc6843a74e35d61dcf907c0e04c45782e1322ff216b0ac05729aa", func := "glister/glisterlaw02.FlashTexts", spec := "flashTexts", inPlace := ["internal/bytealg.IndexByteString", "internal/abi.NoEscape", "internal/bytealg.MakeNoZero"], unfollowed := true, recurses := true, plainKeys := false, apart := false }
def FlashTextsSaid : Prop := flashTextsRow.holds Try.pinned (OpenSpec.ofChange flashTextsSpec)

/-- ITS FALSE NEIGHBOUR: 'it returns false'. Refute it at one input. -/
def flashTextsWrong : ChangeSpec := { name := "flashTexts", fn := fun _ => fun
  | [d1, d2, d3, d4] => { results := [.lit (.bool false)], args := [d1, d2, d3, d4] }
  | _ => none }
def FlashTextsWrongFalsely : Prop := flashTextsRow.holds Try.pinned (OpenSpec.ofChange flashTextsWrong)

/-- 'glisterlaw02.FlashRepeats': WHATEVER THE INPUT: true; the input reads as it did. -/
def flashRepeatsSpec : ChangeSpec := { name := "flashRepeats", fn := fun _ => fun
  | [d] => { results := [.lit (.bool true)], args := [d] }
  | _ => none }
def flashRepeatsRow : OpenClaim := { program := "ytkcbgpilfegofaa", sum := "f83744e403ebc6843a74e35d61dcf907c0e04c45782e1322ff216b0ac05729aa", func := "glister/glisterlaw02.FlashRepeats", spec := "flashRepeats", inPlace := ["internal/bytealg.IndexByteString", "internal/abi.NoEscape", "internal/bytealg.MakeNoZero"], unfollowed := true, recurses := true, plainKeys := false, apart := false }
def FlashRepeatsSaid : Prop := flashRepeatsRow.holds Try.pinned (OpenSpec.ofChange flashRepeatsSpec)

/-- ITS FALSE NEIGHBOUR: 'it returns false'. Refute it at one input. -/
def flashRepeatsWrong : ChangeSpec := { name := "flashRepeats", fn := fun _ => fun
  | [d] => { results := [.lit (.bool false)], args := [d] }
  | _ => none }
def FlashRepeatsWrongFalsely : Prop := flashRepeatsRow.holds Try.pinned (OpenSpec.ofChange flashRepeatsWrong)

/-- 'glisterlaw02.FlashEqual': WHATEVER THE INPUT: true; the input reads as it did. -/
def flashEqualSpec : ChangeSpec := { name := "flashEqual", fn := fun _ => fun
  | [d1, d2] => { results := [.lit (.bool true)], args := [d1, d2] }
  | _ => none }
def flashEqualRow : OpenClaim := { program := "ytkcbgpilfegofaa", sum := "f83744e403ebc6843a74e35d61dcf907c0e04c45782e1322ff216b0ac05729aa", func := "glister/glisterlaw02.FlashEqual", spec := "flashEqual", inPlace := ["internal/bytealg.IndexByteString", "internal/abi.NoEscape", "internal/bytealg.MakeNoZero"], unfollowed := true, recurses := true, plainKeys := false, apart := false }
def FlashEqualSaid : Prop := flashEqualRow.holds Try.pinned (OpenSpec.ofChange flashEqualSpec)

/-- ITS FALSE NEIGHBOUR: 'it returns false'. Refute it at one input. -/
def flashEqualWrong : ChangeSpec := { name := "flashEqual", fn := fun _ => fun
  | [d1, d2] => { results := [.lit (.bool false)], args := [d1, d2] }
  | _ => none }
def FlashEqualWrongFalsely : Prop := flashEqualRow.holds Try.pinned (OpenSpec.ofChange flashEqualWrong)

/-- 'glisterlaw02.FlashMore': WHATEVER THE INPUT: true; the input reads as it did. -/
def flashMoreSpec : ChangeSpec := { name := "flashMore", fn := fun _ => fun
  | [d1, d2, d3, d4] => { results := [.lit (.bool true)], args := [d1, d2, d3, d4] }
  | _ => none }
def flashMoreRow : OpenClaim := { program := "ytkcbgpilfegofaa", sum := "f83744e403ebc6843a74e35d61dcf907c0e04c45782e1322ff216b0ac05729aa", func := "glister/glisterlaw02.FlashMore", spec := "flashMore", inPlace := ["internal/bytealg.IndexByteString", "internal/abi.NoEscape", "internal/bytealg.MakeNoZero"], unfollowed := true, recurses := true, plainKeys := false, apart := false }
def FlashMoreSaid : Prop := flashMoreRow.holds Try.pinned (OpenSpec.ofChange flashMoreSpec)

/-- ITS FALSE NEIGHBOUR: 'it returns false'. Refute it at one input. -/
def flashMoreWrong : ChangeSpec := { name := "flashMore", fn := fun _ => fun
  | [d1, d2, d3, d4] => { results := [.lit (.bool false)], args := [d1, d2, d3, d4] }
  | _ => none }
def FlashMoreWrongFalsely : Prop := flashMoreRow.holds Try.pinned (OpenSpec.ofChange flashMoreWrong)

/-- 'glisterlaw02.FlashJoined': WHATEVER THE INPUT: true; the input reads as it did. -/
def flashJoinedSpec : ChangeSpec := { name := "flashJoined", fn := fun _ => fun
  | [d1, d2, d3, d4] => { results := [.lit (.bool true)], args := [d1, d2, d3, d4] }
  | _ => none }
def flashJoinedRow : OpenClaim := { program := "ytkcbgpilfegofaa", sum := "f83744e403ebc6843a74e35d61dcf907c0e04c45782e1322ff216b0ac05729aa", func := "glister/glisterlaw02.FlashJoined", spec := "flashJoined", inPlace := ["internal/bytealg.IndexByteString", "internal/abi.NoEscape", "internal/bytealg.MakeNoZero"], unfollowed := true, recurses := true, plainKeys := false, apart := false }
def FlashJoinedSaid : Prop := flashJoinedRow.holds Try.pinned (OpenSpec.ofChange flashJoinedSpec)

/-- ITS FALSE NEIGHBOUR: 'it returns false'. Refute it at one input. -/
def flashJoinedWrong : ChangeSpec := { name := "flashJoined", fn := fun _ => fun
  | [d1, d2, d3, d4] => { results := [.lit (.bool false)], args := [d1, d2, d3, d4] }
  | _ => none }
def FlashJoinedWrongFalsely : Prop := flashJoinedRow.holds Try.pinned (OpenSpec.ofChange flashJoinedWrong)

/-- 'glisterlaw02.FlashTurned': WHATEVER THE INPUT: true; the input reads as it did. -/
def flashTurnedSpec : ChangeSpec := { name := "flashTurned", fn := fun _ => fun
  | [d1, d2] => { results := [.lit (.bool true)], args := [d1, d2] }
  | _ => none }
def flashTurnedRow : OpenClaim := { program := "ytkcbgpilfegofaa", sum := "f83744e403ebc6843a74e35d61dcf907c0e04c45782e1322ff216b0ac05729aa", func := "glister/glisterlaw02.FlashTurned", spec := "flashTurned", inPlace := ["internal/bytealg.IndexByteString", "internal/abi.NoEscape", "internal/bytealg.MakeNoZero"], unfollowed := true, recurses := true, plainKeys := false, apart := false }
def FlashTurnedSaid : Prop := flashTurnedRow.holds Try.pinned (OpenSpec.ofChange flashTurnedSpec)

/-- ITS FALSE NEIGHBOUR: 'it returns false'. Refute it at one input. -/
def flashTurnedWrong : ChangeSpec := { name := "flashTurned", fn := fun _ => fun
  | [d1, d2] => { results := [.lit (.bool false)], args := [d1, d2] }
  | _ => none }
def FlashTurnedWrongFalsely : Prop := flashTurnedRow.holds Try.pinned (OpenSpec.ofChange flashTurnedWrong)

/-- 'glisterlaw02.FlashDecides': WHATEVER THE INPUT: true; the input reads as it did. -/
def flashDecidesSpec : ChangeSpec := { name := "flashDecides", fn := fun _ => fun
  | [d1, d2, d3, d4] => { results := [.lit (.bool true)], args := [d1, d2, d3, d4] }
  | _ => none }
def flashDecidesRow : OpenClaim := { program := "ytkcbgpilfegofaa", sum := "f83744e403ebc6843a74e35d61dcf907c0e04c45782e1322ff216b0ac05729aa", func := "glister/glisterlaw02.FlashDecides", spec := "flashDecides", inPlace := ["internal/bytealg.IndexByteString", "internal/abi.NoEscape", "internal/bytealg.MakeNoZero"], unfollowed := true, recurses := true, plainKeys := false, apart := false }
def FlashDecidesSaid : Prop := flashDecidesRow.holds Try.pinned (OpenSpec.ofChange flashDecidesSpec)

/-- ITS FALSE NEIGHBOUR: 'it returns false'. Refute it at one input. -/
def flashDecidesWrong : ChangeSpec := { name := "flashDecides", fn := fun _ => fun
  | [d1, d2, d3, d4] => { results := [.lit (.bool false)], args := [d1, d2, d3, d4] }
  | _ => none }
def FlashDecidesWrongFalsely : Prop := flashDecidesRow.holds Try.pinned (OpenSpec.ofChange flashDecidesWrong)

/-- 'glisterlaw02.FlashOrder': WHATEVER THE INPUT: true; the input reads as it did. -/
def flashOrderSpec : ChangeSpec := { name := "flashOrder", fn := fun _ => fun
  | [d1, d2, d3, d4, d5] => { results := [.lit (.bool true)], args := [d1, d2, d3, d4, d5] }
  | _ => none }
def flashOrderRow : OpenClaim := { program := "ytkcbgpilfegofaa", sum := "f83744e403ebc6843a74e35d61dcf907c0e04c45782e1322ff216b0ac05729aa", func := "glister/glisterlaw02.FlashOrder", spec := "flashOrder", inPlace := ["internal/bytealg.IndexByteString", "internal/abi.NoEscape", "internal/bytealg.MakeNoZero"], unfollowed := true, recurses := true, plainKeys := false, apart := false }
def FlashOrderSaid : Prop := flashOrderRow.holds Try.pinned (OpenSpec.ofChange flashOrderSpec)

/-- ITS FALSE NEIGHBOUR: 'it returns false'. Refute it at one input. -/
def flashOrderWrong : ChangeSpec := { name := "flashOrder", fn := fun _ => fun
  | [d1, d2, d3, d4, d5] => { results := [.lit (.bool false)], args := [d1, d2, d3, d4, d5] }
  | _ => none }
def FlashOrderWrongFalsely : Prop := flashOrderRow.holds Try.pinned (OpenSpec.ofChange flashOrderWrong)

/-- 'glisterlaw02.FlashOwn': WHATEVER THE INPUT: true; the input reads as it did. -/
def flashOwnSpec : ChangeSpec := { name := "flashOwn", fn := fun _ => fun
  | [d1, d2] => { results := [.lit (.bool true)], args := [d1, d2] }
  | _ => none }
def flashOwnRow : OpenClaim := { program := "ytkcbgpilfegofaa", sum := "f83744e403ebc6843a74e35d61dcf907c0e04c45782e1322ff216b0ac05729aa", func := "glister/glisterlaw02.FlashOwn", spec := "flashOwn", inPlace := ["internal/bytealg.IndexByteString", "internal/abi.NoEscape", "internal/bytealg.MakeNoZero"], unfollowed := true, recurses := true, plainKeys := false, apart := false }
def FlashOwnSaid : Prop := flashOwnRow.holds Try.pinned (OpenSpec.ofChange flashOwnSpec)

/-- ITS FALSE NEIGHBOUR: 'it returns false'. Refute it at one input. -/
def flashOwnWrong : ChangeSpec := { name := "flashOwn", fn := fun _ => fun
  | [d1, d2] => { results := [.lit (.bool false)], args := [d1, d2] }
  | _ => none }
def FlashOwnWrongFalsely : Prop := flashOwnRow.holds Try.pinned (OpenSpec.ofChange flashOwnWrong)

/-- 'glisterlaw02.FlashNames': WHATEVER THE INPUT: true; the input reads as it did. -/
def flashNamesSpec : ChangeSpec := { name := "flashNames", fn := fun _ => fun
  | [] => { results := [.lit (.bool true)], args := [] }
  | _ => none }
def flashNamesRow : OpenClaim := { program := "ytkcbgpilfegofaa", sum := "f83744e403ebc6843a74e35d61dcf907c0e04c45782e1322ff216b0ac05729aa", func := "glister/glisterlaw02.FlashNames", spec := "flashNames", inPlace := ["internal/bytealg.IndexByteString", "internal/abi.NoEscape", "internal/bytealg.MakeNoZero"], unfollowed := true, recurses := true, plainKeys := false, apart := false }
def FlashNamesSaid : Prop := flashNamesRow.holds Try.pinned (OpenSpec.ofChange flashNamesSpec)

/-- ITS FALSE NEIGHBOUR: 'it returns false'. Refute it at one input. -/
def flashNamesWrong : ChangeSpec := { name := "flashNames", fn := fun _ => fun
  | [] => { results := [.lit (.bool false)], args := [] }
  | _ => none }
def FlashNamesWrongFalsely : Prop := flashNamesRow.holds Try.pinned (OpenSpec.ofChange flashNamesWrong)

/-- 'glisterlaw02.FlashTruth': WHATEVER THE INPUT: true; the input reads as it did. -/
def flashTruthSpec : ChangeSpec := { name := "flashTruth", fn := fun _ => fun
  | [d1, d2, d3, d4] => { results := [.lit (.bool true)], args := [d1, d2, d3, d4] }
  | _ => none }
def flashTruthRow : OpenClaim := { program := "ytkcbgpilfegofaa", sum := "f83744e403ebc6843a74e35d61dcf907c0e04c45782e1322ff216b0ac05729aa", func := "glister/glisterlaw02.FlashTruth", spec := "flashTruth", inPlace := ["internal/bytealg.IndexByteString", "internal/abi.NoEscape", "internal/bytealg.MakeNoZero"], unfollowed := true, recurses := true, plainKeys := false, apart := false }
def FlashTruthSaid : Prop := flashTruthRow.holds Try.pinned (OpenSpec.ofChange flashTruthSpec)

/-- ITS FALSE NEIGHBOUR: 'it returns false'. Refute it at one input. -/
def flashTruthWrong : ChangeSpec := { name := "flashTruth", fn := fun _ => fun
  | [d1, d2, d3, d4] => { results := [.lit (.bool false)], args := [d1, d2, d3, d4] }
  | _ => none }
def FlashTruthWrongFalsely : Prop := flashTruthRow.holds Try.pinned (OpenSpec.ofChange flashTruthWrong)

/-- 'glisterlaw02.FlashFewest': WHATEVER THE INPUT: true; the input reads as it did. -/
def flashFewestSpec : ChangeSpec := { name := "flashFewest", fn := fun _ => fun
  | [d1, d2, d3, d4] => { results := [.lit (.bool true)], args := [d1, d2, d3, d4] }
  | _ => none }
def flashFewestRow : OpenClaim := { program := "ytkcbgpilfegofaa", sum := "f83744e403ebc6843a74e35d61dcf907c0e04c45782e1322ff216b0ac05729aa", func := "glister/glisterlaw02.FlashFewest", spec := "flashFewest", inPlace := ["internal/bytealg.IndexByteString", "internal/abi.NoEscape", "internal/bytealg.MakeNoZero"], unfollowed := true, recurses := true, plainKeys := false, apart := false }
def FlashFewestSaid : Prop := flashFewestRow.holds Try.pinned (OpenSpec.ofChange flashFewestSpec)

/-- ITS FALSE NEIGHBOUR: 'it returns false'. Refute it at one input. -/
def flashFewestWrong : ChangeSpec := { name := "flashFewest", fn := fun _ => fun
  | [d1, d2, d3, d4] => { results := [.lit (.bool false)], args := [d1, d2, d3, d4] }
  | _ => none }
def FlashFewestWrongFalsely : Prop := flashFewestRow.holds Try.pinned (OpenSpec.ofChange flashFewestWrong)

/- THE SECOND FORM. 'bulk': how many values and letters a reading holds, each counted each time it is reached (what is shared counts as often as it is met; a slice's spare places count too). A statement '..UptoSaid' is the law's where the arguments, and the package variables that the reading takes, are together of bulk at most 1048576: NARROWER than '..Said'. Prove '..Said' where nothing that the law and all that it calls make is longer than what came in: it says more and counts as full. Else prove '..UptoSaid'. A law counts once. -/
mutual
def uptoBulk {H : Type} : DataW H → Nat
  | .lit (.string bytes) => bytes.length + 1
  | .lit _ => 1
  | .nil => 1
  | .ptr d => uptoBulk d + 1
  | .slice elems spare => uptoBulkAll elems + uptoBulkAll spare + 1
  | .agg parts => uptoBulkAll parts + 1
  | .iface _ d => uptoBulk d + 1
  | .map entries => uptoBulkEntries entries + 1
  | .held _ => 1
def uptoBulkAll {H : Type} : List (DataW H) → Nat
  | [] => 0
  | d :: r => uptoBulk d + uptoBulkAll r
def uptoBulkEntries {H : Type} : List (Lit × DataW H) → Nat
  | [] => 0
  | x :: r => uptoBulkEntry x + uptoBulkEntries r
def uptoBulkEntry {H : Type} : Lit × DataW H → Nat
  | (.string bytes, d) => bytes.length + uptoBulk d + 1
  | (_, d) => uptoBulk d + 1
 end
def uptoSmall : (H : Type) → List (DataW H) → Bool := fun _ ds => decide (uptoBulkAll ds ≤ 1048576)
def OpenSpec.upto (s : _root_.Go.ChangeSpec) : _root_.Go.OpenSpec := { _root_.Go.OpenSpec.ofChange s with cond := some uptoSmall }

/-- 'glisterlaw02.FlashSends', WHERE WHAT IT READS IS OF BULK AT MOST 1048576: true; the input reads as it did. -/
def flashSendsUptoRow : OpenClaim := { program := "ytkcbgpilfegofaa", sum := "f83744e403ebc6843a74e35d61dcf907c0e04c45782e1322ff216b0ac05729aa", func := "glister/glisterlaw02.FlashSends", spec := "flashSends", inPlace := ["internal/bytealg.IndexByteString", "internal/abi.NoEscape", "internal/bytealg.MakeNoZero"], unfollowed := true, recurses := true, plainKeys := false, apart := false, narrowed := true }
def FlashSendsUptoSaid : Prop := flashSendsUptoRow.holds Try.pinned (OpenSpec.upto flashSendsSpec)

/-- 'glisterlaw02.FlashErrs', WHERE WHAT IT READS IS OF BULK AT MOST 1048576: true; the input reads as it did. -/
def flashErrsUptoRow : OpenClaim := { program := "ytkcbgpilfegofaa", sum := "f83744e403ebc6843a74e35d61dcf907c0e04c45782e1322ff216b0ac05729aa", func := "glister/glisterlaw02.FlashErrs", spec := "flashErrs", inPlace := ["internal/bytealg.IndexByteString", "internal/abi.NoEscape", "internal/bytealg.MakeNoZero"], unfollowed := true, recurses := true, plainKeys := false, apart := false, narrowed := true }
def FlashErrsUptoSaid : Prop := flashErrsUptoRow.holds Try.pinned (OpenSpec.upto flashErrsSpec)

/-- 'glisterlaw02.FlashTexts', WHERE WHAT IT READS IS OF BULK AT MOST 1048576: true; the input reads as it did. -/
def flashTextsUptoRow : OpenClaim := { program := "ytkcbgpilfegofaa", sum := "f83744e403ebc6843a74e35d61dcf907c0e04c45782e1322ff216b0ac05729aa", func := "glister/glisterlaw02.FlashTexts", spec := "flashTexts", inPlace := ["internal/bytealg.IndexByteString", "internal/abi.NoEscape", "internal/bytealg.MakeNoZero"], unfollowed := true, recurses := true, plainKeys := false, apart := false, narrowed := true }
def FlashTextsUptoSaid : Prop := flashTextsUptoRow.holds Try.pinned (OpenSpec.upto flashTextsSpec)

/-- 'glisterlaw02.FlashRepeats', WHERE WHAT IT READS IS OF BULK AT MOST 1048576: true; the input reads as it did. -/
def flashRepeatsUptoRow : OpenClaim := { program := "ytkcbgpilfegofaa", sum := "f83744e403ebc6843a74e35d61dcf907c0e04c45782e1322ff216b0ac05729aa", func := "glister/glisterlaw02.FlashRepeats", spec := "flashRepeats", inPlace := ["internal/bytealg.IndexByteString", "internal/abi.NoEscape", "internal/bytealg.MakeNoZero"], unfollowed := true, recurses := true, plainKeys := false, apart := false, narrowed := true }
def FlashRepeatsUptoSaid : Prop := flashRepeatsUptoRow.holds Try.pinned (OpenSpec.upto flashRepeatsSpec)

/-- 'glisterlaw02.FlashEqual', WHERE WHAT IT READS IS OF BULK AT MOST 1048576: true; the input reads as it did. -/
def flashEqualUptoRow : OpenClaim := { program := "ytkcbgpilfegofaa", sum := "f83744e403ebc6843a74e35d61dcf907c0e04c45782e1322ff216b0ac05729aa", func := "glister/glisterlaw02.FlashEqual", spec := "flashEqual", inPlace := ["internal/bytealg.IndexByteString", "internal/abi.NoEscape", "internal/bytealg.MakeNoZero"], unfollowed := true, recurses := true, plainKeys := false, apart := false, narrowed := true }
def FlashEqualUptoSaid : Prop := flashEqualUptoRow.holds Try.pinned (OpenSpec.upto flashEqualSpec)

/-- 'glisterlaw02.FlashMore', WHERE WHAT IT READS IS OF BULK AT MOST 1048576: true; the input reads as it did. -/
def flashMoreUptoRow : OpenClaim := { program := "ytkcbgpilfegofaa", sum := "f83744e403ebc6843a74e35d61dcf907c0e04c45782e1322ff216b0ac05729aa", func := "glister/glisterlaw02.FlashMore", spec := "flashMore", inPlace := ["internal/bytealg.IndexByteString", "internal/abi.NoEscape", "internal/bytealg.MakeNoZero"], unfollowed := true, recurses := true, plainKeys := false, apart := false, narrowed := true }
def FlashMoreUptoSaid : Prop := flashMoreUptoRow.holds Try.pinned (OpenSpec.upto flashMoreSpec)

/-- 'glisterlaw02.FlashJoined', WHERE WHAT IT READS IS OF BULK AT MOST 1048576: true; the input reads as it did. -/
def flashJoinedUptoRow : OpenClaim := { program := "ytkcbgpilfegofaa", sum := "f83744e403ebc6843a74e35d61dcf907c0e04c45782e1322ff216b0ac05729aa", func := "glister/glisterlaw02.FlashJoined", spec := "flashJoined", inPlace := ["internal/bytealg.IndexByteString", "internal/abi.NoEscape", "internal/bytealg.MakeNoZero"], unfollowed := true, recurses := true, plainKeys := false, apart := false, narrowed := true }
def FlashJoinedUptoSaid : Prop := flashJoinedUptoRow.holds Try.pinned (OpenSpec.upto flashJoinedSpec)

/-- 'glisterlaw02.FlashTurned', WHERE WHAT IT READS IS OF BULK AT MOST 1048576: true; the input reads as it did. -/
def flashTurnedUptoRow : OpenClaim := { program := "ytkcbgpilfegofaa", sum := "f83744e403ebc6843a74e35d61dcf907c0e04c45782e1322ff216b0ac05729aa", func := "glister/glisterlaw02.FlashTurned", spec := "flashTurned", inPlace := ["internal/bytealg.IndexByteString", "internal/abi.NoEscape", "internal/bytealg.MakeNoZero"], unfollowed := true, recurses := true, plainKeys := false, apart := false, narrowed := true }
def FlashTurnedUptoSaid : Prop := flashTurnedUptoRow.holds Try.pinned (OpenSpec.upto flashTurnedSpec)

/-- 'glisterlaw02.FlashDecides', WHERE WHAT IT READS IS OF BULK AT MOST 1048576: true; the input reads as it did. -/
def flashDecidesUptoRow : OpenClaim := { program := "ytkcbgpilfegofaa", sum := "f83744e403ebc6843a74e35d61dcf907c0e04c45782e1322ff216b0ac05729aa", func := "glister/glisterlaw02.FlashDecides", spec := "flashDecides", inPlace := ["internal/bytealg.IndexByteString", "internal/abi.NoEscape", "internal/bytealg.MakeNoZero"], unfollowed := true, recurses := true, plainKeys := false, apart := false, narrowed := true }
def FlashDecidesUptoSaid : Prop := flashDecidesUptoRow.holds Try.pinned (OpenSpec.upto flashDecidesSpec)

/-- 'glisterlaw02.FlashOrder', WHERE WHAT IT READS IS OF BULK AT MOST 1048576: true; the input reads as it did. -/
def flashOrderUptoRow : OpenClaim := { program := "ytkcbgpilfegofaa", sum := "f83744e403ebc6843a74e35d61dcf907c0e04c45782e1322ff216b0ac05729aa", func := "glister/glisterlaw02.FlashOrder", spec := "flashOrder", inPlace := ["internal/bytealg.IndexByteString", "internal/abi.NoEscape", "internal/bytealg.MakeNoZero"], unfollowed := true, recurses := true, plainKeys := false, apart := false, narrowed := true }
def FlashOrderUptoSaid : Prop := flashOrderUptoRow.holds Try.pinned (OpenSpec.upto flashOrderSpec)

/-- 'glisterlaw02.FlashOwn', WHERE WHAT IT READS IS OF BULK AT MOST 1048576: true; the input reads as it did. -/
def flashOwnUptoRow : OpenClaim := { program := "ytkcbgpilfegofaa", sum := "f83744e403ebc6843a74e35d61dcf907c0e04c45782e1322ff216b0ac05729aa", func := "glister/glisterlaw02.FlashOwn", spec := "flashOwn", inPlace := ["internal/bytealg.IndexByteString", "internal/abi.NoEscape", "internal/bytealg.MakeNoZero"], unfollowed := true, recurses := true, plainKeys := false, apart := false, narrowed := true }
def FlashOwnUptoSaid : Prop := flashOwnUptoRow.holds Try.pinned (OpenSpec.upto flashOwnSpec)

/-- 'glisterlaw02.FlashNames', WHERE WHAT IT READS IS OF BULK AT MOST 1048576: true; the input reads as it did. -/
def flashNamesUptoRow : OpenClaim := { program := "ytkcbgpilfegofaa", sum := "f83744e403ebc6843a74e35d61dcf907c0e04c45782e1322ff216b0ac05729aa", func := "glister/glisterlaw02.FlashNames", spec := "flashNames", inPlace := ["internal/bytealg.IndexByteString", "internal/abi.NoEscape", "internal/bytealg.MakeNoZero"], unfollowed := true, recurses := true, plainKeys := false, apart := false, narrowed := true }
def FlashNamesUptoSaid : Prop := flashNamesUptoRow.holds Try.pinned (OpenSpec.upto flashNamesSpec)

/-- 'glisterlaw02.FlashTruth', WHERE WHAT IT READS IS OF BULK AT MOST 1048576: true; the input reads as it did. -/
def flashTruthUptoRow : OpenClaim := { program := "ytkcbgpilfegofaa", sum := "f83744e403ebc6843a74e35d61dcf907c0e04c45782e1322ff216b0ac05729aa", func := "glister/glisterlaw02.FlashTruth", spec := "flashTruth", inPlace := ["internal/bytealg.IndexByteString", "internal/abi.NoEscape", "internal/bytealg.MakeNoZero"], unfollowed := true, recurses := true, plainKeys := false, apart := false, narrowed := true }
def FlashTruthUptoSaid : Prop := flashTruthUptoRow.holds Try.pinned (OpenSpec.upto flashTruthSpec)

/-- 'glisterlaw02.FlashFewest', WHERE WHAT IT READS IS OF BULK AT MOST 1048576: true; the input reads as it did. -/
def flashFewestUptoRow : OpenClaim := { program := "ytkcbgpilfegofaa", sum := "f83744e403ebc6843a74e35d61dcf907c0e04c45782e1322ff216b0ac05729aa", func := "glister/glisterlaw02.FlashFewest", spec := "flashFewest", inPlace := ["internal/bytealg.IndexByteString", "internal/abi.NoEscape", "internal/bytealg.MakeNoZero"], unfollowed := true, recurses := true, plainKeys := false, apart := false, narrowed := true }
def FlashFewestUptoSaid : Prop := flashFewestUptoRow.holds Try.pinned (OpenSpec.upto flashFewestSpec)

end Rows
end Go.Proofs.Ytkcbgpilfegofaa
