/-
  No cell of these rows narrows 'for every input' (looked for: loops, veiled, ifaces, maps, wideKeys, modest, calm, conditions, laid).
  DERIVED. THE GIVEN ROWS OF THIS SEAT. 10 by the template 'for every input the law returns true; each argument reads behind the call as it read before'; 0 by the template 'total and deterministic' (their statements: YtepfkahbfnahmaaTotals.lean).
  GIVEN WITH THE SEED: the statements are not yours to turn. If you find one false, say at which input.
  Laid BY PROGRAM, IN A SANDBOX (cutbox-rows.mjs): the forced cells as the released guide's own fill.sh prints them over the translation 13b92b5d0ba436de… (all of the seat's roots in one cut). By AI agents, Wed Nov 11 2026. No macro, syntax, notation, axiom, sorry.
-/
import Derived.Test.YtepfkahbfnahmaaChecked
import GoSem.Claim
import GoSem.ClaimJoined
import GoSem.ClaimMapViews
import Derived.JoinedTies
import Derived.KernelRfl
namespace Go.Proofs.Ytepfkahbfnahmaa
/- THE CELL 'sum', in the pinned program and in every row, IS THE sha256 OF THE DUMP (.gsa) THAT YtepfkahbfnahmaaProg.lean LOADS. Nothing in Lean hashes anything: it is a label: what it is worth is what the hold of that sum in a sandbox is worth. -/
noncomputable def Try.pinned : Pinned := { name := "ytepfkahbfnahmaa", sum := "13b92b5d0ba436de5df4da63a278df1dc4d8233098c8627b0fc17d0cfaa1a2e8", checked := Try.checked }
namespace Rows
def none {H : Type} : Left H := { results := [], args := [] }

/-- 'laws.FnExactFirstPeriod': WHATEVER THE INPUT: true; the input reads as it did. -/
def fnExactFirstPeriodSpec : ChangeSpec := { name := "fnExactFirstPeriod", fn := fun _ => fun
  | [d1, d2, d3] => { results := [.lit (.bool true)], args := [d1, d2, d3] }
  | _ => none }
def fnExactFirstPeriodRow : OpenClaim := { program := "ytepfkahbfnahmaa", sum := "13b92b5d0ba436de5df4da63a278df1dc4d8233098c8627b0fc17d0cfaa1a2e8", func := "loop.example/g01198/laws.FnExactFirstPeriod", spec := "fnExactFirstPeriod", plainKeys := false, apart := false }
def FnExactFirstPeriodSaid : Prop := fnExactFirstPeriodRow.holds Try.pinned (OpenSpec.ofChange fnExactFirstPeriodSpec)

/-- ITS FALSE NEIGHBOUR: 'it returns false'. Refute it at one input. -/
def fnExactFirstPeriodWrong : ChangeSpec := { name := "fnExactFirstPeriod", fn := fun _ => fun
  | [d1, d2, d3] => { results := [.lit (.bool false)], args := [d1, d2, d3] }
  | _ => none }
def FnExactFirstPeriodWrongFalsely : Prop := fnExactFirstPeriodRow.holds Try.pinned (OpenSpec.ofChange fnExactFirstPeriodWrong)

/-- 'laws.FnExactExactFirst': WHATEVER THE INPUT: true; the input reads as it did. -/
def fnExactExactFirstSpec : ChangeSpec := { name := "fnExactExactFirst", fn := fun _ => fun
  | [d1, d2, d3] => { results := [.lit (.bool true)], args := [d1, d2, d3] }
  | _ => none }
def fnExactExactFirstRow : OpenClaim := { program := "ytepfkahbfnahmaa", sum := "13b92b5d0ba436de5df4da63a278df1dc4d8233098c8627b0fc17d0cfaa1a2e8", func := "loop.example/g01198/laws.FnExactExactFirst", spec := "fnExactExactFirst", unfollowed := true, recurses := true, plainKeys := false, apart := false }
def FnExactExactFirstSaid : Prop := fnExactExactFirstRow.holds Try.pinned (OpenSpec.ofChange fnExactExactFirstSpec)

/-- ITS FALSE NEIGHBOUR: 'it returns false'. Refute it at one input. -/
def fnExactExactFirstWrong : ChangeSpec := { name := "fnExactExactFirst", fn := fun _ => fun
  | [d1, d2, d3] => { results := [.lit (.bool false)], args := [d1, d2, d3] }
  | _ => none }
def FnExactExactFirstWrongFalsely : Prop := fnExactExactFirstRow.holds Try.pinned (OpenSpec.ofChange fnExactExactFirstWrong)

/-- 'laws.FnExactDivideWeights': WHATEVER THE INPUT: true; the input reads as it did. -/
def fnExactDivideWeightsSpec : ChangeSpec := { name := "fnExactDivideWeights", fn := fun _ => fun
  | [d1, d2] => { results := [.lit (.bool true)], args := [d1, d2] }
  | _ => none }
def fnExactDivideWeightsRow : OpenClaim := { program := "ytepfkahbfnahmaa", sum := "13b92b5d0ba436de5df4da63a278df1dc4d8233098c8627b0fc17d0cfaa1a2e8", func := "loop.example/g01198/laws.FnExactDivideWeights", spec := "fnExactDivideWeights", unfollowed := true, recurses := true, plainKeys := false, apart := false }
def FnExactDivideWeightsSaid : Prop := fnExactDivideWeightsRow.holds Try.pinned (OpenSpec.ofChange fnExactDivideWeightsSpec)

/-- ITS FALSE NEIGHBOUR: 'it returns false'. Refute it at one input. -/
def fnExactDivideWeightsWrong : ChangeSpec := { name := "fnExactDivideWeights", fn := fun _ => fun
  | [d1, d2] => { results := [.lit (.bool false)], args := [d1, d2] }
  | _ => none }
def FnExactDivideWeightsWrongFalsely : Prop := fnExactDivideWeightsRow.holds Try.pinned (OpenSpec.ofChange fnExactDivideWeightsWrong)

/-- 'laws.FnExactExactSecond': WHATEVER THE INPUT: true; the input reads as it did. -/
def fnExactExactSecondSpec : ChangeSpec := { name := "fnExactExactSecond", fn := fun _ => fun
  | [d1, d2, d3, d4] => { results := [.lit (.bool true)], args := [d1, d2, d3, d4] }
  | _ => none }
def fnExactExactSecondRow : OpenClaim := { program := "ytepfkahbfnahmaa", sum := "13b92b5d0ba436de5df4da63a278df1dc4d8233098c8627b0fc17d0cfaa1a2e8", func := "loop.example/g01198/laws.FnExactExactSecond", spec := "fnExactExactSecond", unfollowed := true, recurses := true, plainKeys := false, apart := false }
def FnExactExactSecondSaid : Prop := fnExactExactSecondRow.holds Try.pinned (OpenSpec.ofChange fnExactExactSecondSpec)

/-- ITS FALSE NEIGHBOUR: 'it returns false'. Refute it at one input. -/
def fnExactExactSecondWrong : ChangeSpec := { name := "fnExactExactSecond", fn := fun _ => fun
  | [d1, d2, d3, d4] => { results := [.lit (.bool false)], args := [d1, d2, d3, d4] }
  | _ => none }
def FnExactExactSecondWrongFalsely : Prop := fnExactExactSecondRow.holds Try.pinned (OpenSpec.ofChange fnExactExactSecondWrong)

/-- 'laws.FnExactPairsBefore': WHATEVER THE INPUT: true; the input reads as it did. -/
def fnExactPairsBeforeSpec : ChangeSpec := { name := "fnExactPairsBefore", fn := fun _ => fun
  | [d1, d2, d3, d4] => { results := [.lit (.bool true)], args := [d1, d2, d3, d4] }
  | _ => none }
def fnExactPairsBeforeRow : OpenClaim := { program := "ytepfkahbfnahmaa", sum := "13b92b5d0ba436de5df4da63a278df1dc4d8233098c8627b0fc17d0cfaa1a2e8", func := "loop.example/g01198/laws.FnExactPairsBefore", spec := "fnExactPairsBefore", unfollowed := true, recurses := true, plainKeys := false, apart := false }
def FnExactPairsBeforeSaid : Prop := fnExactPairsBeforeRow.holds Try.pinned (OpenSpec.ofChange fnExactPairsBeforeSpec)

/-- ITS FALSE NEIGHBOUR: 'it returns false'. Refute it at one input. -/
def fnExactPairsBeforeWrong : ChangeSpec := { name := "fnExactPairsBefore", fn := fun _ => fun
  | [d1, d2, d3, d4] => { results := [.lit (.bool false)], args := [d1, d2, d3, d4] }
  | _ => none }
def FnExactPairsBeforeWrongFalsely : Prop := fnExactPairsBeforeRow.holds Try.pinned (OpenSpec.ofChange fnExactPairsBeforeWrong)

/-- 'laws.FnExactRestsOf': WHATEVER THE INPUT: true; the input reads as it did. -/
def fnExactRestsOfSpec : ChangeSpec := { name := "fnExactRestsOf", fn := fun _ => fun
  | [d1, d2] => { results := [.lit (.bool true)], args := [d1, d2] }
  | _ => none }
def fnExactRestsOfRow : OpenClaim := { program := "ytepfkahbfnahmaa", sum := "13b92b5d0ba436de5df4da63a278df1dc4d8233098c8627b0fc17d0cfaa1a2e8", func := "loop.example/g01198/laws.FnExactRestsOf", spec := "fnExactRestsOf", unfollowed := true, recurses := true, plainKeys := false, apart := false }
def FnExactRestsOfSaid : Prop := fnExactRestsOfRow.holds Try.pinned (OpenSpec.ofChange fnExactRestsOfSpec)

/-- ITS FALSE NEIGHBOUR: 'it returns false'. Refute it at one input. -/
def fnExactRestsOfWrong : ChangeSpec := { name := "fnExactRestsOf", fn := fun _ => fun
  | [d1, d2] => { results := [.lit (.bool false)], args := [d1, d2] }
  | _ => none }
def FnExactRestsOfWrongFalsely : Prop := fnExactRestsOfRow.holds Try.pinned (OpenSpec.ofChange fnExactRestsOfWrong)

/-- 'laws.FnExactPairPeriod': WHATEVER THE INPUT: true; the input reads as it did. -/
def fnExactPairPeriodSpec : ChangeSpec := { name := "fnExactPairPeriod", fn := fun _ => fun
  | [d1, d2, d3, d4] => { results := [.lit (.bool true)], args := [d1, d2, d3, d4] }
  | _ => none }
def fnExactPairPeriodRow : OpenClaim := { program := "ytepfkahbfnahmaa", sum := "13b92b5d0ba436de5df4da63a278df1dc4d8233098c8627b0fc17d0cfaa1a2e8", func := "loop.example/g01198/laws.FnExactPairPeriod", spec := "fnExactPairPeriod", plainKeys := false, apart := false }
def FnExactPairPeriodSaid : Prop := fnExactPairPeriodRow.holds Try.pinned (OpenSpec.ofChange fnExactPairPeriodSpec)

/-- ITS FALSE NEIGHBOUR: 'it returns false'. Refute it at one input. -/
def fnExactPairPeriodWrong : ChangeSpec := { name := "fnExactPairPeriod", fn := fun _ => fun
  | [d1, d2, d3, d4] => { results := [.lit (.bool false)], args := [d1, d2, d3, d4] }
  | _ => none }
def FnExactPairPeriodWrongFalsely : Prop := fnExactPairPeriodRow.holds Try.pinned (OpenSpec.ofChange fnExactPairPeriodWrong)

/-- 'laws.FnExactNumbersBefore': WHATEVER THE INPUT: true; the input reads as it did. -/
def fnExactNumbersBeforeSpec : ChangeSpec := { name := "fnExactNumbersBefore", fn := fun _ => fun
  | [d1, d2, d3] => { results := [.lit (.bool true)], args := [d1, d2, d3] }
  | _ => none }
def fnExactNumbersBeforeRow : OpenClaim := { program := "ytepfkahbfnahmaa", sum := "13b92b5d0ba436de5df4da63a278df1dc4d8233098c8627b0fc17d0cfaa1a2e8", func := "loop.example/g01198/laws.FnExactNumbersBefore", spec := "fnExactNumbersBefore", unfollowed := true, recurses := true, plainKeys := false, apart := false }
def FnExactNumbersBeforeSaid : Prop := fnExactNumbersBeforeRow.holds Try.pinned (OpenSpec.ofChange fnExactNumbersBeforeSpec)

/-- ITS FALSE NEIGHBOUR: 'it returns false'. Refute it at one input. -/
def fnExactNumbersBeforeWrong : ChangeSpec := { name := "fnExactNumbersBefore", fn := fun _ => fun
  | [d1, d2, d3] => { results := [.lit (.bool false)], args := [d1, d2, d3] }
  | _ => none }
def FnExactNumbersBeforeWrongFalsely : Prop := fnExactNumbersBeforeRow.holds Try.pinned (OpenSpec.ofChange fnExactNumbersBeforeWrong)

/-- 'laws.FnExactFilterInWord': WHATEVER THE INPUT: true; the input reads as it did. -/
def fnExactFilterInWordSpec : ChangeSpec := { name := "fnExactFilterInWord", fn := fun _ => fun
  | [d1, d2, d3, d4, d5] => { results := [.lit (.bool true)], args := [d1, d2, d3, d4, d5] }
  | _ => none }
def fnExactFilterInWordRow : OpenClaim := { program := "ytepfkahbfnahmaa", sum := "13b92b5d0ba436de5df4da63a278df1dc4d8233098c8627b0fc17d0cfaa1a2e8", func := "loop.example/g01198/laws.FnExactFilterInWord", spec := "fnExactFilterInWord", unfollowed := true, recurses := true, plainKeys := false, apart := false }
def FnExactFilterInWordSaid : Prop := fnExactFilterInWordRow.holds Try.pinned (OpenSpec.ofChange fnExactFilterInWordSpec)

/-- ITS FALSE NEIGHBOUR: 'it returns false'. Refute it at one input. -/
def fnExactFilterInWordWrong : ChangeSpec := { name := "fnExactFilterInWord", fn := fun _ => fun
  | [d1, d2, d3, d4, d5] => { results := [.lit (.bool false)], args := [d1, d2, d3, d4, d5] }
  | _ => none }
def FnExactFilterInWordWrongFalsely : Prop := fnExactFilterInWordRow.holds Try.pinned (OpenSpec.ofChange fnExactFilterInWordWrong)

/-- 'laws.FnExactFilterAtEnd': WHATEVER THE INPUT: true; the input reads as it did. -/
def fnExactFilterAtEndSpec : ChangeSpec := { name := "fnExactFilterAtEnd", fn := fun _ => fun
  | [d1, d2, d3, d4, d5] => { results := [.lit (.bool true)], args := [d1, d2, d3, d4, d5] }
  | _ => none }
def fnExactFilterAtEndRow : OpenClaim := { program := "ytepfkahbfnahmaa", sum := "13b92b5d0ba436de5df4da63a278df1dc4d8233098c8627b0fc17d0cfaa1a2e8", func := "loop.example/g01198/laws.FnExactFilterAtEnd", spec := "fnExactFilterAtEnd", unfollowed := true, recurses := true, plainKeys := false, apart := false }
def FnExactFilterAtEndSaid : Prop := fnExactFilterAtEndRow.holds Try.pinned (OpenSpec.ofChange fnExactFilterAtEndSpec)

/-- ITS FALSE NEIGHBOUR: 'it returns false'. Refute it at one input. -/
def fnExactFilterAtEndWrong : ChangeSpec := { name := "fnExactFilterAtEnd", fn := fun _ => fun
  | [d1, d2, d3, d4, d5] => { results := [.lit (.bool false)], args := [d1, d2, d3, d4, d5] }
  | _ => none }
def FnExactFilterAtEndWrongFalsely : Prop := fnExactFilterAtEndRow.holds Try.pinned (OpenSpec.ofChange fnExactFilterAtEndWrong)

/- THE SECOND FORM. 'bulk': how many values and letters a reading holds, each counted each time it is reached (what is shared counts as often as it is met; a slice's spare places count too). A statement '..UptoSaid' is the law's where the arguments, and the package variables that the reading takes, are together of bulk at most 1048576: NARROWER than '..Said'. Prove '..Said' where nothing that the law and all that it calls make is longer than what came in: it says more and counts as full. Else prove '..UptoSaid'. A law counts once. -/
mutual
def uptoBulk {H : Type} : DataW H → Nat
  | .lit (.string bytes) => bytes.length + 1
  | .lit _ => 1
  | .nil => 1
  | .ptr d => uptoBulk d + 1
  | .slice elems spare => uptoBulkAll elems + uptoBulkAll spare + 1
  | .agg parts => uptoBulkAll parts + 1
  | .iface _ d => uptoBulk d + 1
  | .map entries => uptoBulkEntries entries + 1
  | .held _ => 1
def uptoBulkAll {H : Type} : List (DataW H) → Nat
  | [] => 0
  | d :: r => uptoBulk d + uptoBulkAll r
def uptoBulkEntries {H : Type} : List (Lit × DataW H) → Nat
  | [] => 0
  | x :: r => uptoBulkEntry x + uptoBulkEntries r
def uptoBulkEntry {H : Type} : Lit × DataW H → Nat
  | (.string bytes, d) => bytes.length + uptoBulk d + 1
  | (_, d) => uptoBulk d + 1
 end
def uptoSmall : (H : Type) → List (DataW H) → Bool := fun _ ds => decide (uptoBulkAll ds ≤ 1048576)
def OpenSpec.upto (s : _root_.Go.ChangeSpec) : _root_.Go.OpenSpec := { _root_.Go.OpenSpec.ofChange s with cond := some uptoSmall }

/-- 'laws.FnExactFirstPeriod', WHERE WHAT IT READS IS OF BULK AT MOST 1048576: true; the input reads as it did. -/
def fnExactFirstPeriodUptoRow : OpenClaim := { program := "ytepfkahbfnahmaa", sum := "13b92b5d0ba436de5df4da63a278df1dc4d8233098c8627b0fc17d0cfaa1a2e8", func := "loop.example/g01198/laws.FnExactFirstPeriod", spec := "fnExactFirstPeriod", plainKeys := false, apart := false, narrowed := true }
def FnExactFirstPeriodUptoSaid : Prop := fnExactFirstPeriodUptoRow.holds Try.pinned (OpenSpec.upto fnExactFirstPeriodSpec)

/-- 'laws.FnExactExactFirst', WHERE WHAT IT READS IS OF BULK AT MOST 1048576: true; the input reads as it did. -/
def fnExactExactFirstUptoRow : OpenClaim := { program := "ytepfkahbfnahmaa", sum := "13b92b5d0ba436de5df4da63a278df1dc4d8233098c8627b0fc17d0cfaa1a2e8", func := "loop.example/g01198/laws.FnExactExactFirst", spec := "fnExactExactFirst", unfollowed := true, recurses := true, plainKeys := false, apart := false, narrowed := true }
def FnExactExactFirstUptoSaid : Prop := fnExactExactFirstUptoRow.holds Try.pinned (OpenSpec.upto fnExactExactFirstSpec)

/-- 'laws.FnExactDivideWeights', WHERE WHAT IT READS IS OF BULK AT MOST 1048576: true; the input reads as it did. -/
def fnExactDivideWeightsUptoRow : OpenClaim := { program := "ytepfkahbfnahmaa", sum := "13b92b5d0ba436de5df4da63a278df1dc4d8233098c8627b0fc17d0cfaa1a2e8", func := "loop.example/g01198/laws.FnExactDivideWeights", spec := "fnExactDivideWeights", unfollowed := true, recurses := true, plainKeys := false, apart := false, narrowed := true }
def FnExactDivideWeightsUptoSaid : Prop := fnExactDivideWeightsUptoRow.holds Try.pinned (OpenSpec.upto fnExactDivideWeightsSpec)

/-- 'laws.FnExactExactSecond', WHERE WHAT IT READS IS OF BULK AT MOST 1048576: true; the input reads as it did. -/
def fnExactExactSecondUptoRow : OpenClaim := { program := "ytepfkahbfnahmaa", sum := "13b92b5d0ba436de5df4da63a278df1dc4d8233098c8627b0fc17d0cfaa1a2e8", func := "loop.example/g01198/laws.FnExactExactSecond", spec := "fnExactExactSecond", unfollowed := true, recurses := true, plainKeys := false, apart := false, narrowed := true }
def FnExactExactSecondUptoSaid : Prop := fnExactExactSecondUptoRow.holds Try.pinned (OpenSpec.upto fnExactExactSecondSpec)

/-- 'laws.FnExactPairsBefore', WHERE WHAT IT READS IS OF BULK AT MOST 1048576: true; the input reads as it did. -/
def fnExactPairsBeforeUptoRow : OpenClaim := { program := "ytepfkahbfnahmaa", sum := "13b92b5d0ba436de5df4da63a278df1dc4d8233098c8627b0fc17d0cfaa1a2e8", func := "loop.example/g01198/laws.FnExactPairsBefore", spec := "fnExactPairsBefore", unfollowed := true, recurses := true, plainKeys := false, apart := false, narrowed := true }
def FnExactPairsBeforeUptoSaid : Prop := fnExactPairsBeforeUptoRow.holds Try.pinned (OpenSpec.upto fnExactPairsBeforeSpec)

/-- 'laws.FnExactRestsOf', WHERE WHAT IT READS IS OF BULK AT MOST 1048576: true; the input reads as it did. -/
def fnExactRestsOfUptoRow : OpenClaim := { program := "ytepfkahbfnahmaa", sum := "13b92b5d0ba436de5df4da63a278df1dc4d8233098c8627b0fc17d0cfaa1a2e8", func := "loop.example/g01198/laws.FnExactRestsOf", spec := "fnExactRestsOf", unfollowed := true, recurses := true, plainKeys := false, apart := false, narrowed := true }
def FnExactRestsOfUptoSaid : Prop := fnExactRestsOfUptoRow.holds Try.pinned (OpenSpec.upto fnExactRestsOfSpec)

/-- 'laws.FnExactPairPeriod', WHERE WHAT IT READS IS OF BULK AT MOST 1048576: true; the input reads as it did. -/
def fnExactPairPeriodUptoRow : OpenClaim := { program := "ytepfkahbfnahmaa", sum := "13b92b5d0ba436de5df4da63a278df1dc4d8233098c8627b0fc17d0cfaa1a2e8", func := "loop.example/g01198/laws.FnExactPairPeriod", spec := "fnExactPairPeriod", plainKeys := false, apart := false, narrowed := true }
def FnExactPairPeriodUptoSaid : Prop := fnExactPairPeriodUptoRow.holds Try.pinned (OpenSpec.upto fnExactPairPeriodSpec)

/-- 'laws.FnExactNumbersBefore', WHERE WHAT IT READS IS OF BULK AT MOST 1048576: true; the input reads as it did. -/
def fnExactNumbersBeforeUptoRow : OpenClaim := { program := "ytepfkahbfnahmaa", sum := "13b92b5d0ba436de5df4da63a278df1dc4d8233098c8627b0fc17d0cfaa1a2e8", func := "loop.example/g01198/laws.FnExactNumbersBefore", spec := "fnExactNumbersBefore", unfollowed := true, recurses := true, plainKeys := false, apart := false, narrowed := true }
def FnExactNumbersBeforeUptoSaid : Prop := fnExactNumbersBeforeUptoRow.holds Try.pinned (OpenSpec.upto fnExactNumbersBeforeSpec)

/-- 'laws.FnExactFilterInWord', WHERE WHAT IT READS IS OF BULK AT MOST 1048576: true; the input reads as it did. -/
def fnExactFilterInWordUptoRow : OpenClaim := { program := "ytepfkahbfnahmaa", sum := "13b92b5d0ba436de5df4da63a278df1dc4d8233098c8627b0fc17d0cfaa1a2e8", func := "loop.example/g01198/laws.FnExactFilterInWord", spec := "fnExactFilterInWord", unfollowed := true, recurses := true, plainKeys := false, apart := false, narrowed := true }
def FnExactFilterInWordUptoSaid : Prop := fnExactFilterInWordUptoRow.holds Try.pinned (OpenSpec.upto fnExactFilterInWordSpec)

/-- 'laws.FnExactFilterAtEnd', WHERE WHAT IT READS IS OF BULK AT MOST 1048576: true; the input reads as it did. -/
def fnExactFilterAtEndUptoRow : OpenClaim := { program := "ytepfkahbfnahmaa", sum := "13b92b5d0ba436de5df4da63a278df1dc4d8233098c8627b0fc17d0cfaa1a2e8", func := "loop.example/g01198/laws.FnExactFilterAtEnd", spec := "fnExactFilterAtEnd", unfollowed := true, recurses := true, plainKeys := false, apart := false, narrowed := true }
def FnExactFilterAtEndUptoSaid : Prop := fnExactFilterAtEndUptoRow.holds Try.pinned (OpenSpec.upto fnExactFilterAtEndSpec)

end Rows
end Go.Proofs.Ytepfkahbfnahmaa
