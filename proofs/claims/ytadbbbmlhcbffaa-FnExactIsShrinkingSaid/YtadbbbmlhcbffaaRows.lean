/-
  No cell of these rows narrows 'for every input' (looked for: loops, veiled, ifaces, maps, wideKeys, modest, calm, conditions, laid).
  DERIVED. THE GIVEN ROWS OF THIS SEAT. 11 by the template 'for every input the law returns true; each argument reads behind the call as it read before'; 0 by the template 'total and deterministic' (their statements: YtadbbbmlhcbffaaTotals.lean).
  GIVEN WITH THE SEED: the statements are not yours to turn. If you find one false, say at which input.
  Laid BY PROGRAM, IN A SANDBOX (cutbox-rows.mjs): the forced cells as the released guide's own fill.sh prints them over the translation 76b82927f416d834… (all of the seat's roots in one cut). By AI agents, Wed Nov 11 2026. No macro, syntax, notation, axiom, sorry.
-/
import Derived.Test.YtadbbbmlhcbffaaChecked
import GoSem.Claim
import GoSem.ClaimJoined
import GoSem.ClaimMapViews
import Derived.JoinedTies
import Derived.KernelRfl
namespace Go.Proofs.Ytadbbbmlhcbffaa
/- THE CELL 'sum', in the pinned program and in every row, IS THE sha256 OF THE DUMP (.gsa) THAT YtadbbbmlhcbffaaProg.lean LOADS. Nothing in Lean hashes anything: it is a label: what it is worth is what the hold of that sum in a sandbox is worth. -/
noncomputable def Try.pinned : Pinned := { name := "ytadbbbmlhcbffaa", sum := "76b82927f416d8341e1219935a44c021280a524037ceaf25cfa5e4f66076d1e3", checked := Try.checked }
namespace Rows
def none {H : Type} : Left H := { results := [], args := [] }

/-- 'laws.FnExactConstants': WHATEVER THE INPUT: true; the input reads as it did. -/
def fnExactConstantsSpec : ChangeSpec := { name := "fnExactConstants", fn := fun _ => fun
  | [] => { results := [.lit (.bool true)], args := [] }
  | _ => none }
def fnExactConstantsRow : OpenClaim := { program := "ytadbbbmlhcbffaa", sum := "76b82927f416d8341e1219935a44c021280a524037ceaf25cfa5e4f66076d1e3", func := "loop.example/g01198/laws.FnExactConstants", spec := "fnExactConstants", apart := false }
def FnExactConstantsSaid : Prop := fnExactConstantsRow.holds Try.pinned (OpenSpec.ofChange fnExactConstantsSpec)

/-- ITS FALSE NEIGHBOUR: 'it returns false'. Refute it at one input. -/
def fnExactConstantsWrong : ChangeSpec := { name := "fnExactConstants", fn := fun _ => fun
  | [] => { results := [.lit (.bool false)], args := [] }
  | _ => none }
def FnExactConstantsWrongFalsely : Prop := fnExactConstantsRow.holds Try.pinned (OpenSpec.ofChange fnExactConstantsWrong)

/-- 'laws.FnExactIsWord': WHATEVER THE INPUT: true; the input reads as it did. -/
def fnExactIsWordSpec : ChangeSpec := { name := "fnExactIsWord", fn := fun _ => fun
  | [d] => { results := [.lit (.bool true)], args := [d] }
  | _ => none }
def fnExactIsWordRow : OpenClaim := { program := "ytadbbbmlhcbffaa", sum := "76b82927f416d8341e1219935a44c021280a524037ceaf25cfa5e4f66076d1e3", func := "loop.example/g01198/laws.FnExactIsWord", spec := "fnExactIsWord", apart := false }
def FnExactIsWordSaid : Prop := fnExactIsWordRow.holds Try.pinned (OpenSpec.ofChange fnExactIsWordSpec)

/-- ITS FALSE NEIGHBOUR: 'it returns false'. Refute it at one input. -/
def fnExactIsWordWrong : ChangeSpec := { name := "fnExactIsWord", fn := fun _ => fun
  | [d] => { results := [.lit (.bool false)], args := [d] }
  | _ => none }
def FnExactIsWordWrongFalsely : Prop := fnExactIsWordRow.holds Try.pinned (OpenSpec.ofChange fnExactIsWordWrong)

/-- 'laws.FnExactRangeOf': WHATEVER THE INPUT: true; the input reads as it did. -/
def fnExactRangeOfSpec : ChangeSpec := { name := "fnExactRangeOf", fn := fun _ => fun
  | [d] => { results := [.lit (.bool true)], args := [d] }
  | _ => none }
def fnExactRangeOfRow : OpenClaim := { program := "ytadbbbmlhcbffaa", sum := "76b82927f416d8341e1219935a44c021280a524037ceaf25cfa5e4f66076d1e3", func := "loop.example/g01198/laws.FnExactRangeOf", spec := "fnExactRangeOf", apart := false }
def FnExactRangeOfSaid : Prop := fnExactRangeOfRow.holds Try.pinned (OpenSpec.ofChange fnExactRangeOfSpec)

/-- ITS FALSE NEIGHBOUR: 'it returns false'. Refute it at one input. -/
def fnExactRangeOfWrong : ChangeSpec := { name := "fnExactRangeOf", fn := fun _ => fun
  | [d] => { results := [.lit (.bool false)], args := [d] }
  | _ => none }
def FnExactRangeOfWrongFalsely : Prop := fnExactRangeOfRow.holds Try.pinned (OpenSpec.ofChange fnExactRangeOfWrong)

/-- 'laws.FnExactIsFirst': WHATEVER THE INPUT: true; the input reads as it did. -/
def fnExactIsFirstSpec : ChangeSpec := { name := "fnExactIsFirst", fn := fun _ => fun
  | [d] => { results := [.lit (.bool true)], args := [d] }
  | _ => none }
def fnExactIsFirstRow : OpenClaim := { program := "ytadbbbmlhcbffaa", sum := "76b82927f416d8341e1219935a44c021280a524037ceaf25cfa5e4f66076d1e3", func := "loop.example/g01198/laws.FnExactIsFirst", spec := "fnExactIsFirst", apart := false }
def FnExactIsFirstSaid : Prop := fnExactIsFirstRow.holds Try.pinned (OpenSpec.ofChange fnExactIsFirstSpec)

/-- ITS FALSE NEIGHBOUR: 'it returns false'. Refute it at one input. -/
def fnExactIsFirstWrong : ChangeSpec := { name := "fnExactIsFirst", fn := fun _ => fun
  | [d] => { results := [.lit (.bool false)], args := [d] }
  | _ => none }
def FnExactIsFirstWrongFalsely : Prop := fnExactIsFirstRow.holds Try.pinned (OpenSpec.ofChange fnExactIsFirstWrong)

/-- 'laws.FnExactIsSecond': WHATEVER THE INPUT: true; the input reads as it did. -/
def fnExactIsSecondSpec : ChangeSpec := { name := "fnExactIsSecond", fn := fun _ => fun
  | [d] => { results := [.lit (.bool true)], args := [d] }
  | _ => none }
def fnExactIsSecondRow : OpenClaim := { program := "ytadbbbmlhcbffaa", sum := "76b82927f416d8341e1219935a44c021280a524037ceaf25cfa5e4f66076d1e3", func := "loop.example/g01198/laws.FnExactIsSecond", spec := "fnExactIsSecond", apart := false }
def FnExactIsSecondSaid : Prop := fnExactIsSecondRow.holds Try.pinned (OpenSpec.ofChange fnExactIsSecondSpec)

/-- ITS FALSE NEIGHBOUR: 'it returns false'. Refute it at one input. -/
def fnExactIsSecondWrong : ChangeSpec := { name := "fnExactIsSecond", fn := fun _ => fun
  | [d] => { results := [.lit (.bool false)], args := [d] }
  | _ => none }
def FnExactIsSecondWrongFalsely : Prop := fnExactIsSecondRow.holds Try.pinned (OpenSpec.ofChange fnExactIsSecondWrong)

/-- 'laws.FnExactIsWeights': WHATEVER THE INPUT: true; the input reads as it did. -/
def fnExactIsWeightsSpec : ChangeSpec := { name := "fnExactIsWeights", fn := fun _ => fun
  | [d] => { results := [.lit (.bool true)], args := [d] }
  | _ => none }
def fnExactIsWeightsRow : OpenClaim := { program := "ytadbbbmlhcbffaa", sum := "76b82927f416d8341e1219935a44c021280a524037ceaf25cfa5e4f66076d1e3", func := "loop.example/g01198/laws.FnExactIsWeights", spec := "fnExactIsWeights", unfollowed := true, recurses := true, apart := false }
def FnExactIsWeightsSaid : Prop := fnExactIsWeightsRow.holds Try.pinned (OpenSpec.ofChange fnExactIsWeightsSpec)

/-- ITS FALSE NEIGHBOUR: 'it returns false'. Refute it at one input. -/
def fnExactIsWeightsWrong : ChangeSpec := { name := "fnExactIsWeights", fn := fun _ => fun
  | [d] => { results := [.lit (.bool false)], args := [d] }
  | _ => none }
def FnExactIsWeightsWrongFalsely : Prop := fnExactIsWeightsRow.holds Try.pinned (OpenSpec.ofChange fnExactIsWeightsWrong)

/-- 'laws.FnExactRestOfShift': WHATEVER THE INPUT: true; the input reads as it did. -/
def fnExactRestOfShiftSpec : ChangeSpec := { name := "fnExactRestOfShift", fn := fun _ => fun
  | [d1, d2, d3] => { results := [.lit (.bool true)], args := [d1, d2, d3] }
  | _ => none }
def fnExactRestOfShiftRow : OpenClaim := { program := "ytadbbbmlhcbffaa", sum := "76b82927f416d8341e1219935a44c021280a524037ceaf25cfa5e4f66076d1e3", func := "loop.example/g01198/laws.FnExactRestOfShift", spec := "fnExactRestOfShift", apart := false }
def FnExactRestOfShiftSaid : Prop := fnExactRestOfShiftRow.holds Try.pinned (OpenSpec.ofChange fnExactRestOfShiftSpec)

/-- ITS FALSE NEIGHBOUR: 'it returns false'. Refute it at one input. -/
def fnExactRestOfShiftWrong : ChangeSpec := { name := "fnExactRestOfShift", fn := fun _ => fun
  | [d1, d2, d3] => { results := [.lit (.bool false)], args := [d1, d2, d3] }
  | _ => none }
def FnExactRestOfShiftWrongFalsely : Prop := fnExactRestOfShiftRow.holds Try.pinned (OpenSpec.ofChange fnExactRestOfShiftWrong)

/-- 'laws.FnExactRoundShift': WHATEVER THE INPUT: true; the input reads as it did. -/
def fnExactRoundShiftSpec : ChangeSpec := { name := "fnExactRoundShift", fn := fun _ => fun
  | [d1, d2, d3] => { results := [.lit (.bool true)], args := [d1, d2, d3] }
  | _ => none }
def fnExactRoundShiftRow : OpenClaim := { program := "ytadbbbmlhcbffaa", sum := "76b82927f416d8341e1219935a44c021280a524037ceaf25cfa5e4f66076d1e3", func := "loop.example/g01198/laws.FnExactRoundShift", spec := "fnExactRoundShift", apart := false }
def FnExactRoundShiftSaid : Prop := fnExactRoundShiftRow.holds Try.pinned (OpenSpec.ofChange fnExactRoundShiftSpec)

/-- ITS FALSE NEIGHBOUR: 'it returns false'. Refute it at one input. -/
def fnExactRoundShiftWrong : ChangeSpec := { name := "fnExactRoundShift", fn := fun _ => fun
  | [d1, d2, d3] => { results := [.lit (.bool false)], args := [d1, d2, d3] }
  | _ => none }
def FnExactRoundShiftWrongFalsely : Prop := fnExactRoundShiftRow.holds Try.pinned (OpenSpec.ofChange fnExactRoundShiftWrong)

/-- 'laws.FnExactIsSignal': WHATEVER THE INPUT: true; the input reads as it did. -/
def fnExactIsSignalSpec : ChangeSpec := { name := "fnExactIsSignal", fn := fun _ => fun
  | [d] => { results := [.lit (.bool true)], args := [d] }
  | _ => none }
def fnExactIsSignalRow : OpenClaim := { program := "ytadbbbmlhcbffaa", sum := "76b82927f416d8341e1219935a44c021280a524037ceaf25cfa5e4f66076d1e3", func := "loop.example/g01198/laws.FnExactIsSignal", spec := "fnExactIsSignal", unfollowed := true, recurses := true, apart := false }
def FnExactIsSignalSaid : Prop := fnExactIsSignalRow.holds Try.pinned (OpenSpec.ofChange fnExactIsSignalSpec)

/-- ITS FALSE NEIGHBOUR: 'it returns false'. Refute it at one input. -/
def fnExactIsSignalWrong : ChangeSpec := { name := "fnExactIsSignal", fn := fun _ => fun
  | [d] => { results := [.lit (.bool false)], args := [d] }
  | _ => none }
def FnExactIsSignalWrongFalsely : Prop := fnExactIsSignalRow.holds Try.pinned (OpenSpec.ofChange fnExactIsSignalWrong)

/-- 'laws.FnExactIsInTriangle': WHATEVER THE INPUT: true; the input reads as it did. -/
def fnExactIsInTriangleSpec : ChangeSpec := { name := "fnExactIsInTriangle", fn := fun _ => fun
  | [d] => { results := [.lit (.bool true)], args := [d] }
  | _ => none }
def fnExactIsInTriangleRow : OpenClaim := { program := "ytadbbbmlhcbffaa", sum := "76b82927f416d8341e1219935a44c021280a524037ceaf25cfa5e4f66076d1e3", func := "loop.example/g01198/laws.FnExactIsInTriangle", spec := "fnExactIsInTriangle", apart := false }
def FnExactIsInTriangleSaid : Prop := fnExactIsInTriangleRow.holds Try.pinned (OpenSpec.ofChange fnExactIsInTriangleSpec)

/-- ITS FALSE NEIGHBOUR: 'it returns false'. Refute it at one input. -/
def fnExactIsInTriangleWrong : ChangeSpec := { name := "fnExactIsInTriangle", fn := fun _ => fun
  | [d] => { results := [.lit (.bool false)], args := [d] }
  | _ => none }
def FnExactIsInTriangleWrongFalsely : Prop := fnExactIsInTriangleRow.holds Try.pinned (OpenSpec.ofChange fnExactIsInTriangleWrong)

/-- 'laws.FnExactIsShrinking': WHATEVER THE INPUT: true; the input reads as it did. -/
def fnExactIsShrinkingSpec : ChangeSpec := { name := "fnExactIsShrinking", fn := fun _ => fun
  | [d] => { results := [.lit (.bool true)], args := [d] }
  | _ => none }
def fnExactIsShrinkingRow : OpenClaim := { program := "ytadbbbmlhcbffaa", sum := "76b82927f416d8341e1219935a44c021280a524037ceaf25cfa5e4f66076d1e3", func := "loop.example/g01198/laws.FnExactIsShrinking", spec := "fnExactIsShrinking", apart := false }
def FnExactIsShrinkingSaid : Prop := fnExactIsShrinkingRow.holds Try.pinned (OpenSpec.ofChange fnExactIsShrinkingSpec)

/-- ITS FALSE NEIGHBOUR: 'it returns false'. Refute it at one input. -/
def fnExactIsShrinkingWrong : ChangeSpec := { name := "fnExactIsShrinking", fn := fun _ => fun
  | [d] => { results := [.lit (.bool false)], args := [d] }
  | _ => none }
def FnExactIsShrinkingWrongFalsely : Prop := fnExactIsShrinkingRow.holds Try.pinned (OpenSpec.ofChange fnExactIsShrinkingWrong)

/- THE SECOND FORM. 'bulk': how many values and letters a reading holds, each counted each time it is reached (what is shared counts as often as it is met; a slice's spare places count too). A statement '..UptoSaid' is the law's where the arguments, and the package variables that the reading takes, are together of bulk at most 1048576: NARROWER than '..Said'. Prove '..Said' where nothing that the law and all that it calls make is longer than what came in: it says more and counts as full. Else prove '..UptoSaid'. A law counts once. -/
mutual
def uptoBulk {H : Type} : DataW H → Nat
  | .lit (.string bytes) => bytes.length + 1
  | .lit _ => 1
  | .nil => 1
  | .ptr d => uptoBulk d + 1
  | .slice elems spare => uptoBulkAll elems + uptoBulkAll spare + 1
  | .agg parts => uptoBulkAll parts + 1
  | .iface _ d => uptoBulk d + 1
  | .map entries => uptoBulkEntries entries + 1
  | .held _ => 1
def uptoBulkAll {H : Type} : List (DataW H) → Nat
  | [] => 0
  | d :: r => uptoBulk d + uptoBulkAll r
def uptoBulkEntries {H : Type} : List (Lit × DataW H) → Nat
  | [] => 0
  | x :: r => uptoBulkEntry x + uptoBulkEntries r
def uptoBulkEntry {H : Type} : Lit × DataW H → Nat
  | (.string bytes, d) => bytes.length + uptoBulk d + 1
  | (_, d) => uptoBulk d + 1
 end
def uptoSmall : (H : Type) → List (DataW H) → Bool := fun _ ds => decide (uptoBulkAll ds ≤ 1048576)
def OpenSpec.upto (s : _root_.Go.ChangeSpec) : _root_.Go.OpenSpec := { _root_.Go.OpenSpec.ofChange s with cond := some uptoSmall }

/-- 'laws.FnExactConstants', WHERE WHAT IT READS IS OF BULK AT MOST 1048576: true; the input reads as it did. -/
def fnExactConstantsUptoRow : OpenClaim := { program := "ytadbbbmlhcbffaa", sum := "76b82927f416d8341e1219935a44c021280a524037ceaf25cfa5e4f66076d1e3", func := "loop.example/g01198/laws.FnExactConstants", spec := "fnExactConstants", apart := false, narrowed := true }
def FnExactConstantsUptoSaid : Prop := fnExactConstantsUptoRow.holds Try.pinned (OpenSpec.upto fnExactConstantsSpec)

/-- 'laws.FnExactIsWord', WHERE WHAT IT READS IS OF BULK AT MOST 1048576: true; the input reads as it did. -/
def fnExactIsWordUptoRow : OpenClaim := { program := "ytadbbbmlhcbffaa", sum := "76b82927f416d8341e1219935a44c021280a524037ceaf25cfa5e4f66076d1e3", func := "loop.example/g01198/laws.FnExactIsWord", spec := "fnExactIsWord", apart := false, narrowed := true }
def FnExactIsWordUptoSaid : Prop := fnExactIsWordUptoRow.holds Try.pinned (OpenSpec.upto fnExactIsWordSpec)

/-- 'laws.FnExactRangeOf', WHERE WHAT IT READS IS OF BULK AT MOST 1048576: true; the input reads as it did. -/
def fnExactRangeOfUptoRow : OpenClaim := { program := "ytadbbbmlhcbffaa", sum := "76b82927f416d8341e1219935a44c021280a524037ceaf25cfa5e4f66076d1e3", func := "loop.example/g01198/laws.FnExactRangeOf", spec := "fnExactRangeOf", apart := false, narrowed := true }
def FnExactRangeOfUptoSaid : Prop := fnExactRangeOfUptoRow.holds Try.pinned (OpenSpec.upto fnExactRangeOfSpec)

/-- 'laws.FnExactIsFirst', WHERE WHAT IT READS IS OF BULK AT MOST 1048576: true; the input reads as it did. -/
def fnExactIsFirstUptoRow : OpenClaim := { program := "ytadbbbmlhcbffaa", sum := "76b82927f416d8341e1219935a44c021280a524037ceaf25cfa5e4f66076d1e3", func := "loop.example/g01198/laws.FnExactIsFirst", spec := "fnExactIsFirst", apart := false, narrowed := true }
def FnExactIsFirstUptoSaid : Prop := fnExactIsFirstUptoRow.holds Try.pinned (OpenSpec.upto fnExactIsFirstSpec)

/-- 'laws.FnExactIsSecond', WHERE WHAT IT READS IS OF BULK AT MOST 1048576: true; the input reads as it did. -/
def fnExactIsSecondUptoRow : OpenClaim := { program := "ytadbbbmlhcbffaa", sum := "76b82927f416d8341e1219935a44c021280a524037ceaf25cfa5e4f66076d1e3", func := "loop.example/g01198/laws.FnExactIsSecond", spec := "fnExactIsSecond", apart := false, narrowed := true }
def FnExactIsSecondUptoSaid : Prop := fnExactIsSecondUptoRow.holds Try.pinned (OpenSpec.upto fnExactIsSecondSpec)

/-- 'laws.FnExactIsWeights', WHERE WHAT IT READS IS OF BULK AT MOST 1048576: true; the input reads as it did. -/
def fnExactIsWeightsUptoRow : OpenClaim := { program := "ytadbbbmlhcbffaa", sum := "76b82927f416d8341e1219935a44c021280a524037ceaf25cfa5e4f66076d1e3", func := "loop.example/g01198/laws.FnExactIsWeights", spec := "fnExactIsWeights", unfollowed := true, recurses := true, apart := false, narrowed := true }
def FnExactIsWeightsUptoSaid : Prop := fnExactIsWeightsUptoRow.holds Try.pinned (OpenSpec.upto fnExactIsWeightsSpec)

/-- 'laws.FnExactRestOfShift', WHERE WHAT IT READS IS OF BULK AT MOST 1048576: true; the input reads as it did. -/
def fnExactRestOfShiftUptoRow : OpenClaim := { program := "ytadbbbmlhcbffaa", sum := "76b82927f416d8341e1219935a44c021280a524037ceaf25cfa5e4f66076d1e3", func := "loop.example/g01198/laws.FnExactRestOfShift", spec := "fnExactRestOfShift", apart := false, narrowed := true }
def FnExactRestOfShiftUptoSaid : Prop := fnExactRestOfShiftUptoRow.holds Try.pinned (OpenSpec.upto fnExactRestOfShiftSpec)

/-- 'laws.FnExactRoundShift', WHERE WHAT IT READS IS OF BULK AT MOST 1048576: true; the input reads as it did. -/
def fnExactRoundShiftUptoRow : OpenClaim := { program := "ytadbbbmlhcbffaa", sum := "76b82927f416d8341e1219935a44c021280a524037ceaf25cfa5e4f66076d1e3", func := "loop.example/g01198/laws.FnExactRoundShift", spec := "fnExactRoundShift", apart := false, narrowed := true }
def FnExactRoundShiftUptoSaid : Prop := fnExactRoundShiftUptoRow.holds Try.pinned (OpenSpec.upto fnExactRoundShiftSpec)

/-- 'laws.FnExactIsSignal', WHERE WHAT IT READS IS OF BULK AT MOST 1048576: true; the input reads as it did. -/
def fnExactIsSignalUptoRow : OpenClaim := { program := "ytadbbbmlhcbffaa", sum := "76b82927f416d8341e1219935a44c021280a524037ceaf25cfa5e4f66076d1e3", func := "loop.example/g01198/laws.FnExactIsSignal", spec := "fnExactIsSignal", unfollowed := true, recurses := true, apart := false, narrowed := true }
def FnExactIsSignalUptoSaid : Prop := fnExactIsSignalUptoRow.holds Try.pinned (OpenSpec.upto fnExactIsSignalSpec)

/-- 'laws.FnExactIsInTriangle', WHERE WHAT IT READS IS OF BULK AT MOST 1048576: true; the input reads as it did. -/
def fnExactIsInTriangleUptoRow : OpenClaim := { program := "ytadbbbmlhcbffaa", sum := "76b82927f416d8341e1219935a44c021280a524037ceaf25cfa5e4f66076d1e3", func := "loop.example/g01198/laws.FnExactIsInTriangle", spec := "fnExactIsInTriangle", apart := false, narrowed := true }
def FnExactIsInTriangleUptoSaid : Prop := fnExactIsInTriangleUptoRow.holds Try.pinned (OpenSpec.upto fnExactIsInTriangleSpec)

/-- 'laws.FnExactIsShrinking', WHERE WHAT IT READS IS OF BULK AT MOST 1048576: true; the input reads as it did. -/
def fnExactIsShrinkingUptoRow : OpenClaim := { program := "ytadbbbmlhcbffaa", sum := "76b82927f416d8341e1219935a44c021280a524037ceaf25cfa5e4f66076d1e3", func := "loop.example/g01198/laws.FnExactIsShrinking", spec := "fnExactIsShrinking", apart := false, narrowed := true }
def FnExactIsShrinkingUptoSaid : Prop := fnExactIsShrinkingUptoRow.holds Try.pinned (OpenSpec.upto fnExactIsShrinkingSpec)

end Rows
end Go.Proofs.Ytadbbbmlhcbffaa
