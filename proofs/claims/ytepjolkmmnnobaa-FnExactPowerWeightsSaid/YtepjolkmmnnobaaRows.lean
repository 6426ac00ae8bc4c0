/-
  No cell of these rows narrows 'for every input' (looked for: loops, veiled, ifaces, maps, wideKeys, modest, calm, conditions, laid).
  DERIVED. THE GIVEN ROWS OF THIS SEAT. 12 by the template 'for every input the law returns true; each argument reads behind the call as it read before'; 0 by the template 'total and deterministic' (their statements: YtepjolkmmnnobaaTotals.lean).
  GIVEN WITH THE SEED: the statements are not yours to turn. If you find one false, say at which input.
  Laid BY PROGRAM, IN A SANDBOX (cutbox-rows.mjs): the forced cells as the released guide's own fill.sh prints them over the translation 84aa2359409e3fd9… (all of the seat's roots in one cut). By AI agents, Wed Nov 11 2026. No macro, syntax, notation, axiom, sorry.
-/
import Derived.Test.YtepjolkmmnnobaaChecked
import GoSem.Claim
import GoSem.ClaimJoined
import GoSem.ClaimMapViews
import Derived.JoinedTies
import Derived.KernelRfl
namespace Go.Proofs.Ytepjolkmmnnobaa
/- THE CELL 'sum', in the pinned program and in every row, IS THE sha256 OF THE DUMP (.gsa) THAT YtepjolkmmnnobaaProg.lean LOADS. Nothing in Lean hashes anything: it is a label: what it is worth is what the hold of that sum in a sandbox is worth. -/
noncomputable def Try.pinned : Pinned := { name := "ytepjolkmmnnobaa", sum := "84aa2359409e3fd92b906012a7635ba015e5240d901aa2cf9af7d0a2f0392ca9", checked := Try.checked }
namespace Rows
def none {H : Type} : Left H := { results := [], args := [] }

/-- 'laws.FnExactBitsNeeded': WHATEVER THE INPUT: true; the input reads as it did. -/
def fnExactBitsNeededSpec : ChangeSpec := { name := "fnExactBitsNeeded", fn := fun _ => fun
  | [d1, d2] => { results := [.lit (.bool true)], args := [d1, d2] }
  | _ => none }
def fnExactBitsNeededRow : OpenClaim := { program := "ytepjolkmmnnobaa", sum := "84aa2359409e3fd92b906012a7635ba015e5240d901aa2cf9af7d0a2f0392ca9", func := "loop.example/g01198/laws.FnExactBitsNeeded", spec := "fnExactBitsNeeded", unfollowed := true, recurses := true, apart := false }
def FnExactBitsNeededSaid : Prop := fnExactBitsNeededRow.holds Try.pinned (OpenSpec.ofChange fnExactBitsNeededSpec)

/-- ITS FALSE NEIGHBOUR: 'it returns false'. Refute it at one input. -/
def fnExactBitsNeededWrong : ChangeSpec := { name := "fnExactBitsNeeded", fn := fun _ => fun
  | [d1, d2] => { results := [.lit (.bool false)], args := [d1, d2] }
  | _ => none }
def FnExactBitsNeededWrongFalsely : Prop := fnExactBitsNeededRow.holds Try.pinned (OpenSpec.ofChange fnExactBitsNeededWrong)

/-- 'laws.FnExactTimesWeights': WHATEVER THE INPUT: true; the input reads as it did. -/
def fnExactTimesWeightsSpec : ChangeSpec := { name := "fnExactTimesWeights", fn := fun _ => fun
  | [d1, d2] => { results := [.lit (.bool true)], args := [d1, d2] }
  | _ => none }
def fnExactTimesWeightsRow : OpenClaim := { program := "ytepjolkmmnnobaa", sum := "84aa2359409e3fd92b906012a7635ba015e5240d901aa2cf9af7d0a2f0392ca9", func := "loop.example/g01198/laws.FnExactTimesWeights", spec := "fnExactTimesWeights", unfollowed := true, recurses := true, apart := false }
def FnExactTimesWeightsSaid : Prop := fnExactTimesWeightsRow.holds Try.pinned (OpenSpec.ofChange fnExactTimesWeightsSpec)

/-- ITS FALSE NEIGHBOUR: 'it returns false'. Refute it at one input. -/
def fnExactTimesWeightsWrong : ChangeSpec := { name := "fnExactTimesWeights", fn := fun _ => fun
  | [d1, d2] => { results := [.lit (.bool false)], args := [d1, d2] }
  | _ => none }
def FnExactTimesWeightsWrongFalsely : Prop := fnExactTimesWeightsRow.holds Try.pinned (OpenSpec.ofChange fnExactTimesWeightsWrong)

/-- 'laws.FnExactDifferencesOf': WHATEVER THE INPUT: true; the input reads as it did. -/
def fnExactDifferencesOfSpec : ChangeSpec := { name := "fnExactDifferencesOf", fn := fun _ => fun
  | [d] => { results := [.lit (.bool true)], args := [d] }
  | _ => none }
def fnExactDifferencesOfRow : OpenClaim := { program := "ytepjolkmmnnobaa", sum := "84aa2359409e3fd92b906012a7635ba015e5240d901aa2cf9af7d0a2f0392ca9", func := "loop.example/g01198/laws.FnExactDifferencesOf", spec := "fnExactDifferencesOf", unfollowed := true, recurses := true, apart := false }
def FnExactDifferencesOfSaid : Prop := fnExactDifferencesOfRow.holds Try.pinned (OpenSpec.ofChange fnExactDifferencesOfSpec)

/-- ITS FALSE NEIGHBOUR: 'it returns false'. Refute it at one input. -/
def fnExactDifferencesOfWrong : ChangeSpec := { name := "fnExactDifferencesOf", fn := fun _ => fun
  | [d] => { results := [.lit (.bool false)], args := [d] }
  | _ => none }
def FnExactDifferencesOfWrongFalsely : Prop := fnExactDifferencesOfRow.holds Try.pinned (OpenSpec.ofChange fnExactDifferencesOfWrong)

/-- 'laws.FnExactAddSignals': WHATEVER THE INPUT: true; the input reads as it did. -/
def fnExactAddSignalsSpec : ChangeSpec := { name := "fnExactAddSignals", fn := fun _ => fun
  | [d1, d2] => { results := [.lit (.bool true)], args := [d1, d2] }
  | _ => none }
def fnExactAddSignalsRow : OpenClaim := { program := "ytepjolkmmnnobaa", sum := "84aa2359409e3fd92b906012a7635ba015e5240d901aa2cf9af7d0a2f0392ca9", func := "loop.example/g01198/laws.FnExactAddSignals", spec := "fnExactAddSignals", unfollowed := true, recurses := true, apart := false }
def FnExactAddSignalsSaid : Prop := fnExactAddSignalsRow.holds Try.pinned (OpenSpec.ofChange fnExactAddSignalsSpec)

/-- ITS FALSE NEIGHBOUR: 'it returns false'. Refute it at one input. -/
def fnExactAddSignalsWrong : ChangeSpec := { name := "fnExactAddSignals", fn := fun _ => fun
  | [d1, d2] => { results := [.lit (.bool false)], args := [d1, d2] }
  | _ => none }
def FnExactAddSignalsWrongFalsely : Prop := fnExactAddSignalsRow.holds Try.pinned (OpenSpec.ofChange fnExactAddSignalsWrong)

/-- 'laws.FnExactInverseAnswer': WHATEVER THE INPUT: true; the input reads as it did. -/
def fnExactInverseAnswerSpec : ChangeSpec := { name := "fnExactInverseAnswer", fn := fun _ => fun
  | [d1, d2] => { results := [.lit (.bool true)], args := [d1, d2] }
  | _ => none }
def fnExactInverseAnswerRow : OpenClaim := { program := "ytepjolkmmnnobaa", sum := "84aa2359409e3fd92b906012a7635ba015e5240d901aa2cf9af7d0a2f0392ca9", func := "loop.example/g01198/laws.FnExactInverseAnswer", spec := "fnExactInverseAnswer", unfollowed := true, recurses := true, apart := false }
def FnExactInverseAnswerSaid : Prop := fnExactInverseAnswerRow.holds Try.pinned (OpenSpec.ofChange fnExactInverseAnswerSpec)

/-- ITS FALSE NEIGHBOUR: 'it returns false'. Refute it at one input. -/
def fnExactInverseAnswerWrong : ChangeSpec := { name := "fnExactInverseAnswer", fn := fun _ => fun
  | [d1, d2] => { results := [.lit (.bool false)], args := [d1, d2] }
  | _ => none }
def FnExactInverseAnswerWrongFalsely : Prop := fnExactInverseAnswerRow.holds Try.pinned (OpenSpec.ofChange fnExactInverseAnswerWrong)

/-- 'laws.FnExactFilterSignal': WHATEVER THE INPUT: true; the input reads as it did. -/
def fnExactFilterSignalSpec : ChangeSpec := { name := "fnExactFilterSignal", fn := fun _ => fun
  | [d1, d2] => { results := [.lit (.bool true)], args := [d1, d2] }
  | _ => none }
def fnExactFilterSignalRow : OpenClaim := { program := "ytepjolkmmnnobaa", sum := "84aa2359409e3fd92b906012a7635ba015e5240d901aa2cf9af7d0a2f0392ca9", func := "loop.example/g01198/laws.FnExactFilterSignal", spec := "fnExactFilterSignal", unfollowed := true, recurses := true, apart := false }
def FnExactFilterSignalSaid : Prop := fnExactFilterSignalRow.holds Try.pinned (OpenSpec.ofChange fnExactFilterSignalSpec)

/-- ITS FALSE NEIGHBOUR: 'it returns false'. Refute it at one input. -/
def fnExactFilterSignalWrong : ChangeSpec := { name := "fnExactFilterSignal", fn := fun _ => fun
  | [d1, d2] => { results := [.lit (.bool false)], args := [d1, d2] }
  | _ => none }
def FnExactFilterSignalWrongFalsely : Prop := fnExactFilterSignalRow.holds Try.pinned (OpenSpec.ofChange fnExactFilterSignalWrong)

/-- 'laws.FnExactFilterShort': WHATEVER THE INPUT: true; the input reads as it did. -/
def fnExactFilterShortSpec : ChangeSpec := { name := "fnExactFilterShort", fn := fun _ => fun
  | [d1, d2] => { results := [.lit (.bool true)], args := [d1, d2] }
  | _ => none }
def fnExactFilterShortRow : OpenClaim := { program := "ytepjolkmmnnobaa", sum := "84aa2359409e3fd92b906012a7635ba015e5240d901aa2cf9af7d0a2f0392ca9", func := "loop.example/g01198/laws.FnExactFilterShort", spec := "fnExactFilterShort", unfollowed := true, recurses := true, apart := false }
def FnExactFilterShortSaid : Prop := fnExactFilterShortRow.holds Try.pinned (OpenSpec.ofChange fnExactFilterShortSpec)

/-- ITS FALSE NEIGHBOUR: 'it returns false'. Refute it at one input. -/
def fnExactFilterShortWrong : ChangeSpec := { name := "fnExactFilterShort", fn := fun _ => fun
  | [d1, d2] => { results := [.lit (.bool false)], args := [d1, d2] }
  | _ => none }
def FnExactFilterShortWrongFalsely : Prop := fnExactFilterShortRow.holds Try.pinned (OpenSpec.ofChange fnExactFilterShortWrong)

/-- 'laws.FnExactIsMirrored': WHATEVER THE INPUT: true; the input reads as it did. -/
def fnExactIsMirroredSpec : ChangeSpec := { name := "fnExactIsMirrored", fn := fun _ => fun
  | [d] => { results := [.lit (.bool true)], args := [d] }
  | _ => none }
def fnExactIsMirroredRow : OpenClaim := { program := "ytepjolkmmnnobaa", sum := "84aa2359409e3fd92b906012a7635ba015e5240d901aa2cf9af7d0a2f0392ca9", func := "loop.example/g01198/laws.FnExactIsMirrored", spec := "fnExactIsMirrored", unfollowed := true, recurses := true, apart := false }
def FnExactIsMirroredSaid : Prop := fnExactIsMirroredRow.holds Try.pinned (OpenSpec.ofChange fnExactIsMirroredSpec)

/-- ITS FALSE NEIGHBOUR: 'it returns false'. Refute it at one input. -/
def fnExactIsMirroredWrong : ChangeSpec := { name := "fnExactIsMirrored", fn := fun _ => fun
  | [d] => { results := [.lit (.bool false)], args := [d] }
  | _ => none }
def FnExactIsMirroredWrongFalsely : Prop := fnExactIsMirroredRow.holds Try.pinned (OpenSpec.ofChange fnExactIsMirroredWrong)

/-- 'laws.FnExactPowerWeights': WHATEVER THE INPUT: true; the input reads as it did. -/
def fnExactPowerWeightsSpec : ChangeSpec := { name := "fnExactPowerWeights", fn := fun _ => fun
  | [d1, d2] => { results := [.lit (.bool true)], args := [d1, d2] }
  | _ => none }
def fnExactPowerWeightsRow : OpenClaim := { program := "ytepjolkmmnnobaa", sum := "84aa2359409e3fd92b906012a7635ba015e5240d901aa2cf9af7d0a2f0392ca9", func := "loop.example/g01198/laws.FnExactPowerWeights", spec := "fnExactPowerWeights", unfollowed := true, recurses := true, apart := false }
def FnExactPowerWeightsSaid : Prop := fnExactPowerWeightsRow.holds Try.pinned (OpenSpec.ofChange fnExactPowerWeightsSpec)

/-- ITS FALSE NEIGHBOUR: 'it returns false'. Refute it at one input. -/
def fnExactPowerWeightsWrong : ChangeSpec := { name := "fnExactPowerWeights", fn := fun _ => fun
  | [d1, d2] => { results := [.lit (.bool false)], args := [d1, d2] }
  | _ => none }
def FnExactPowerWeightsWrongFalsely : Prop := fnExactPowerWeightsRow.holds Try.pinned (OpenSpec.ofChange fnExactPowerWeightsWrong)

/-- 'laws.FnExactFirstStep': WHATEVER THE INPUT: true; the input reads as it did. -/
def fnExactFirstStepSpec : ChangeSpec := { name := "fnExactFirstStep", fn := fun _ => fun
  | [d1, d2, d3] => { results := [.lit (.bool true)], args := [d1, d2, d3] }
  | _ => none }
def fnExactFirstStepRow : OpenClaim := { program := "ytepjolkmmnnobaa", sum := "84aa2359409e3fd92b906012a7635ba015e5240d901aa2cf9af7d0a2f0392ca9", func := "loop.example/g01198/laws.FnExactFirstStep", spec := "fnExactFirstStep", apart := false }
def FnExactFirstStepSaid : Prop := fnExactFirstStepRow.holds Try.pinned (OpenSpec.ofChange fnExactFirstStepSpec)

/-- ITS FALSE NEIGHBOUR: 'it returns false'. Refute it at one input. -/
def fnExactFirstStepWrong : ChangeSpec := { name := "fnExactFirstStep", fn := fun _ => fun
  | [d1, d2, d3] => { results := [.lit (.bool false)], args := [d1, d2, d3] }
  | _ => none }
def FnExactFirstStepWrongFalsely : Prop := fnExactFirstStepRow.holds Try.pinned (OpenSpec.ofChange fnExactFirstStepWrong)

/-- 'laws.FnExactFitSignal': WHATEVER THE INPUT: true; the input reads as it did. -/
def fnExactFitSignalSpec : ChangeSpec := { name := "fnExactFitSignal", fn := fun _ => fun
  | [d1, d2] => { results := [.lit (.bool true)], args := [d1, d2] }
  | _ => none }
def fnExactFitSignalRow : OpenClaim := { program := "ytepjolkmmnnobaa", sum := "84aa2359409e3fd92b906012a7635ba015e5240d901aa2cf9af7d0a2f0392ca9", func := "loop.example/g01198/laws.FnExactFitSignal", spec := "fnExactFitSignal", unfollowed := true, recurses := true, apart := false }
def FnExactFitSignalSaid : Prop := fnExactFitSignalRow.holds Try.pinned (OpenSpec.ofChange fnExactFitSignalSpec)

/-- ITS FALSE NEIGHBOUR: 'it returns false'. Refute it at one input. -/
def fnExactFitSignalWrong : ChangeSpec := { name := "fnExactFitSignal", fn := fun _ => fun
  | [d1, d2] => { results := [.lit (.bool false)], args := [d1, d2] }
  | _ => none }
def FnExactFitSignalWrongFalsely : Prop := fnExactFitSignalRow.holds Try.pinned (OpenSpec.ofChange fnExactFitSignalWrong)

/-- 'laws.FnExactSecondStep': WHATEVER THE INPUT: true; the input reads as it did. -/
def fnExactSecondStepSpec : ChangeSpec := { name := "fnExactSecondStep", fn := fun _ => fun
  | [d1, d2, d3, d4] => { results := [.lit (.bool true)], args := [d1, d2, d3, d4] }
  | _ => none }
def fnExactSecondStepRow : OpenClaim := { program := "ytepjolkmmnnobaa", sum := "84aa2359409e3fd92b906012a7635ba015e5240d901aa2cf9af7d0a2f0392ca9", func := "loop.example/g01198/laws.FnExactSecondStep", spec := "fnExactSecondStep", apart := false }
def FnExactSecondStepSaid : Prop := fnExactSecondStepRow.holds Try.pinned (OpenSpec.ofChange fnExactSecondStepSpec)

/-- ITS FALSE NEIGHBOUR: 'it returns false'. Refute it at one input. -/
def fnExactSecondStepWrong : ChangeSpec := { name := "fnExactSecondStep", fn := fun _ => fun
  | [d1, d2, d3, d4] => { results := [.lit (.bool false)], args := [d1, d2, d3, d4] }
  | _ => none }
def FnExactSecondStepWrongFalsely : Prop := fnExactSecondStepRow.holds Try.pinned (OpenSpec.ofChange fnExactSecondStepWrong)

/- THE SECOND FORM. 'bulk': how many values and letters a reading holds, each counted each time it is reached (what is shared counts as often as it is met; a slice's spare places count too). A statement '..UptoSaid' is the law's where the arguments, and the package variables that the reading takes, are together of bulk at most 1048576: NARROWER than '..Said'. Prove '..Said' where nothing that the law and all that it calls make is longer than what came in: it says more and counts as full. Else prove '..UptoSaid'. A law counts once. -/
mutual
def uptoBulk {H : Type} : DataW H → Nat
  | .lit (.string bytes) => bytes.length + 1
  | .lit _ => 1
  | .nil => 1
  | .ptr d => uptoBulk d + 1
  | .slice elems spare => uptoBulkAll elems + uptoBulkAll spare + 1
  | .agg parts => uptoBulkAll parts + 1
  | .iface _ d => uptoBulk d + 1
  | .map entries => uptoBulkEntries entries + 1
  | .held _ => 1
def uptoBulkAll {H : Type} : List (DataW H) → Nat
  | [] => 0
  | d :: r => uptoBulk d + uptoBulkAll r
def uptoBulkEntries {H : Type} : List (Lit × DataW H) → Nat
  | [] => 0
  | x :: r => uptoBulkEntry x + uptoBulkEntries r
def uptoBulkEntry {H : Type} : Lit × DataW H → Nat
  | (.string bytes, d) => bytes.length + uptoBulk d + 1
  | (_, d) => uptoBulk d + 1
 end
def uptoSmall : (H : Type) → List (DataW H) → Bool := fun _ ds => decide (uptoBulkAll ds ≤ 1048576)
def OpenSpec.upto (s : _root_.Go.ChangeSpec) : _root_.Go.OpenSpec := { _root_.Go.OpenSpec.ofChange s with cond := some uptoSmall }

/-- 'laws.FnExactBitsNeeded', WHERE WHAT IT READS IS OF BULK AT MOST 1048576: true; the input reads as it did. -/
def fnExactBitsNeededUptoRow : OpenClaim := { program := "ytepjolkmmnnobaa", sum := "84aa2359409e3fd92b906012a7635ba015e5240d901aa2cf9af7d0a2f0392ca9", func := "loop.example/g01198/laws.FnExactBitsNeeded", spec := "fnExactBitsNeeded", unfollowed := true, recurses := true, apart := false, narrowed := true }
def FnExactBitsNeededUptoSaid : Prop := fnExactBitsNeededUptoRow.holds Try.pinned (OpenSpec.upto fnExactBitsNeededSpec)

/-- 'laws.FnExactTimesWeights', WHERE WHAT IT READS IS OF BULK AT MOST 1048576: true; the input reads as it did. -/
def fnExactTimesWeightsUptoRow : OpenClaim := { program := "ytepjolkmmnnobaa", sum := "84aa2359409e3fd92b906012a7635ba015e5240d901aa2cf9af7d0a2f0392ca9", func := "loop.example/g01198/laws.FnExactTimesWeights", spec := "fnExactTimesWeights", unfollowed := true, recurses := true, apart := false, narrowed := true }
def FnExactTimesWeightsUptoSaid : Prop := fnExactTimesWeightsUptoRow.holds Try.pinned (OpenSpec.upto fnExactTimesWeightsSpec)

/-- 'laws.FnExactDifferencesOf', WHERE WHAT IT READS IS OF BULK AT MOST 1048576: true; the input reads as it did. -/
def fnExactDifferencesOfUptoRow : OpenClaim := { program := "ytepjolkmmnnobaa", sum := "84aa2359409e3fd92b906012a7635ba015e5240d901aa2cf9af7d0a2f0392ca9", func := "loop.example/g01198/laws.FnExactDifferencesOf", spec := "fnExactDifferencesOf", unfollowed := true, recurses := true, apart := false, narrowed := true }
def FnExactDifferencesOfUptoSaid : Prop := fnExactDifferencesOfUptoRow.holds Try.pinned (OpenSpec.upto fnExactDifferencesOfSpec)

/-- 'laws.FnExactAddSignals', WHERE WHAT IT READS IS OF BULK AT MOST 1048576: true; the input reads as it did. -/
def fnExactAddSignalsUptoRow : OpenClaim := { program := "ytepjolkmmnnobaa", sum := "84aa2359409e3fd92b906012a7635ba015e5240d901aa2cf9af7d0a2f0392ca9", func := "loop.example/g01198/laws.FnExactAddSignals", spec := "fnExactAddSignals", unfollowed := true, recurses := true, apart := false, narrowed := true }
def FnExactAddSignalsUptoSaid : Prop := fnExactAddSignalsUptoRow.holds Try.pinned (OpenSpec.upto fnExactAddSignalsSpec)

/-- 'laws.FnExactInverseAnswer', WHERE WHAT IT READS IS OF BULK AT MOST 1048576: true; the input reads as it did. -/
def fnExactInverseAnswerUptoRow : OpenClaim := { program := "ytepjolkmmnnobaa", sum := "84aa2359409e3fd92b906012a7635ba015e5240d901aa2cf9af7d0a2f0392ca9", func := "loop.example/g01198/laws.FnExactInverseAnswer", spec := "fnExactInverseAnswer", unfollowed := true, recurses := true, apart := false, narrowed := true }
def FnExactInverseAnswerUptoSaid : Prop := fnExactInverseAnswerUptoRow.holds Try.pinned (OpenSpec.upto fnExactInverseAnswerSpec)

/-- 'laws.FnExactFilterSignal', WHERE WHAT IT READS IS OF BULK AT MOST 1048576: true; the input reads as it did. -/
def fnExactFilterSignalUptoRow : OpenClaim := { program := "ytepjolkmmnnobaa", sum := "84aa2359409e3fd92b906012a7635ba015e5240d901aa2cf9af7d0a2f0392ca9", func := "loop.example/g01198/laws.FnExactFilterSignal", spec := "fnExactFilterSignal", unfollowed := true, recurses := true, apart := false, narrowed := true }
def FnExactFilterSignalUptoSaid : Prop := fnExactFilterSignalUptoRow.holds Try.pinned (OpenSpec.upto fnExactFilterSignalSpec)

/-- 'laws.FnExactFilterShort', WHERE WHAT IT READS IS OF BULK AT MOST 1048576: true; the input reads as it did. -/
def fnExactFilterShortUptoRow : OpenClaim := { program := "ytepjolkmmnnobaa", sum := "84aa2359409e3fd92b906012a7635ba015e5240d901aa2cf9af7d0a2f0392ca9", func := "loop.example/g01198/laws.FnExactFilterShort", spec := "fnExactFilterShort", unfollowed := true, recurses := true, apart := false, narrowed := true }
def FnExactFilterShortUptoSaid : Prop := fnExactFilterShortUptoRow.holds Try.pinned (OpenSpec.upto fnExactFilterShortSpec)

/-- 'laws.FnExactIsMirrored', WHERE WHAT IT READS IS OF BULK AT MOST 1048576: true; the input reads as it did. -/
def fnExactIsMirroredUptoRow : OpenClaim := { program := "ytepjolkmmnnobaa", sum := "84aa2359409e3fd92b906012a7635ba015e5240d901aa2cf9af7d0a2f0392ca9", func := "loop.example/g01198/laws.FnExactIsMirrored", spec := "fnExactIsMirrored", unfollowed := true, recurses := true, apart := false, narrowed := true }
def FnExactIsMirroredUptoSaid : Prop := fnExactIsMirroredUptoRow.holds Try.pinned (OpenSpec.upto fnExactIsMirroredSpec)

/-- 'laws.FnExactPowerWeights', WHERE WHAT IT READS IS OF BULK AT MOST 1048576: true; the input reads as it did. -/
def fnExactPowerWeightsUptoRow : OpenClaim := { program := "ytepjolkmmnnobaa", sum := "84aa2359409e3fd92b906012a7635ba015e5240d901aa2cf9af7d0a2f0392ca9", func := "loop.example/g01198/laws.FnExactPowerWeights", spec := "fnExactPowerWeights", unfollowed := true, recurses := true, apart := false, narrowed := true }
def FnExactPowerWeightsUptoSaid : Prop := fnExactPowerWeightsUptoRow.holds Try.pinned (OpenSpec.upto fnExactPowerWeightsSpec)

/-- 'laws.FnExactFirstStep', WHERE WHAT IT READS IS OF BULK AT MOST 1048576: true; the input reads as it did. -/
def fnExactFirstStepUptoRow : OpenClaim := { program := "ytepjolkmmnnobaa", sum := "84aa2359409e3fd92b906012a7635ba015e5240d901aa2cf9af7d0a2f0392ca9", func := "loop.example/g01198/laws.FnExactFirstStep", spec := "fnExactFirstStep", apart := false, narrowed := true }
def FnExactFirstStepUptoSaid : Prop := fnExactFirstStepUptoRow.holds Try.pinned (OpenSpec.upto fnExactFirstStepSpec)

/-- 'laws.FnExactFitSignal', WHERE WHAT IT READS IS OF BULK AT MOST 1048576: true; the input reads as it did. -/
def fnExactFitSignalUptoRow : OpenClaim := { program := "ytepjolkmmnnobaa", sum := "84aa2359409e3fd92b906012a7635ba015e5240d901aa2cf9af7d0a2f0392ca9", func := "loop.example/g01198/laws.FnExactFitSignal", spec := "fnExactFitSignal", unfollowed := true, recurses := true, apart := false, narrowed := true }
def FnExactFitSignalUptoSaid : Prop := fnExactFitSignalUptoRow.holds Try.pinned (OpenSpec.upto fnExactFitSignalSpec)

/-- 'laws.FnExactSecondStep', WHERE WHAT IT READS IS OF BULK AT MOST 1048576: true; the input reads as it did. -/
def fnExactSecondStepUptoRow : OpenClaim := { program := "ytepjolkmmnnobaa", sum := "84aa2359409e3fd92b906012a7635ba015e5240d901aa2cf9af7d0a2f0392ca9", func := "loop.example/g01198/laws.FnExactSecondStep", spec := "fnExactSecondStep", apart := false, narrowed := true }
def FnExactSecondStepUptoSaid : Prop := fnExactSecondStepUptoRow.holds Try.pinned (OpenSpec.upto fnExactSecondStepSpec)

end Rows
end Go.Proofs.Ytepjolkmmnnobaa
