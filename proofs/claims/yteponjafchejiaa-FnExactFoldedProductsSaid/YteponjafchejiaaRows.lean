/-
  No cell of these rows narrows 'for every input' (looked for: loops, veiled, ifaces, maps, wideKeys, modest, calm, conditions, laid).
  DERIVED. THE GIVEN ROWS OF THIS SEAT. 12 by the template 'for every input the law returns true; each argument reads behind the call as it read before'; 0 by the template 'total and deterministic' (their statements: YteponjafchejiaaTotals.lean).
  GIVEN WITH THE SEED: the statements are not yours to turn. If you find one false, say at which input.
  Laid BY PROGRAM, IN A SANDBOX (cutbox-rows.mjs): the forced cells as the released guide's own fill.sh prints them over the translation 46a29f0495ec2d3a… (all of the seat's roots in one cut). By AI agents, Wed Nov 11 2026. No macro, syntax, notation, axiom, sorry.
-/
import Derived.Test.YteponjafchejiaaChecked
import GoSem.Claim
import GoSem.ClaimJoined
import GoSem.ClaimMapViews
import Derived.JoinedTies
import Derived.KernelRfl
namespace Go.Proofs.Yteponjafchejiaa
/- THE CELL 'sum', in the pinned program and in every row, IS THE sha256 OF THE DUMP (.gsa) THAT YteponjafchejiaaProg.lean LOADS. Nothing in Lean hashes anything: it is a label: what it is worth is what the hold of that sum in a sandbox is worth. -/
noncomputable def Try.pinned : Pinned := { name := "yteponjafchejiaa", sum := "46a29f0495ec2d3ae00309050ce642e0bf7a14c795d39cfad1c1e1e890893952", checked := Try.checked }
namespace Rows
def none {H : Type} : Left H := { results := [], args := [] }

/-- 'laws.FnExactGainOfFirst': WHATEVER THE INPUT: true; the input reads as it did. -/
def fnExactGainOfFirstSpec : ChangeSpec := { name := "fnExactGainOfFirst", fn := fun _ => fun
  | [d] => { results := [.lit (.bool true)], args := [d] }
  | _ => none }
def fnExactGainOfFirstRow : OpenClaim := { program := "yteponjafchejiaa", sum := "46a29f0495ec2d3ae00309050ce642e0bf7a14c795d39cfad1c1e1e890893952", func := "loop.example/g01198/laws.FnExactGainOfFirst", spec := "fnExactGainOfFirst", apart := false }
def FnExactGainOfFirstSaid : Prop := fnExactGainOfFirstRow.holds Try.pinned (OpenSpec.ofChange fnExactGainOfFirstSpec)

/-- ITS FALSE NEIGHBOUR: 'it returns false'. Refute it at one input. -/
def fnExactGainOfFirstWrong : ChangeSpec := { name := "fnExactGainOfFirst", fn := fun _ => fun
  | [d] => { results := [.lit (.bool false)], args := [d] }
  | _ => none }
def FnExactGainOfFirstWrongFalsely : Prop := fnExactGainOfFirstRow.holds Try.pinned (OpenSpec.ofChange fnExactGainOfFirstWrong)

/-- 'laws.FnExactDelaySignal': WHATEVER THE INPUT: true; the input reads as it did. -/
def fnExactDelaySignalSpec : ChangeSpec := { name := "fnExactDelaySignal", fn := fun _ => fun
  | [d1, d2] => { results := [.lit (.bool true)], args := [d1, d2] }
  | _ => none }
def fnExactDelaySignalRow : OpenClaim := { program := "yteponjafchejiaa", sum := "46a29f0495ec2d3ae00309050ce642e0bf7a14c795d39cfad1c1e1e890893952", func := "loop.example/g01198/laws.FnExactDelaySignal", spec := "fnExactDelaySignal", unfollowed := true, recurses := true, apart := false }
def FnExactDelaySignalSaid : Prop := fnExactDelaySignalRow.holds Try.pinned (OpenSpec.ofChange fnExactDelaySignalSpec)

/-- ITS FALSE NEIGHBOUR: 'it returns false'. Refute it at one input. -/
def fnExactDelaySignalWrong : ChangeSpec := { name := "fnExactDelaySignal", fn := fun _ => fun
  | [d1, d2] => { results := [.lit (.bool false)], args := [d1, d2] }
  | _ => none }
def FnExactDelaySignalWrongFalsely : Prop := fnExactDelaySignalRow.holds Try.pinned (OpenSpec.ofChange fnExactDelaySignalWrong)

/-- 'laws.FnExactFoldedProducts': WHATEVER THE INPUT: true; the input reads as it did. -/
def fnExactFoldedProductsSpec : ChangeSpec := { name := "fnExactFoldedProducts", fn := fun _ => fun
  | [d] => { results := [.lit (.bool true)], args := [d] }
  | _ => none }
def fnExactFoldedProductsRow : OpenClaim := { program := "yteponjafchejiaa", sum := "46a29f0495ec2d3ae00309050ce642e0bf7a14c795d39cfad1c1e1e890893952", func := "loop.example/g01198/laws.FnExactFoldedProducts", spec := "fnExactFoldedProducts", unfollowed := true, recurses := true, apart := false }
def FnExactFoldedProductsSaid : Prop := fnExactFoldedProductsRow.holds Try.pinned (OpenSpec.ofChange fnExactFoldedProductsSpec)

/-- ITS FALSE NEIGHBOUR: 'it returns false'. Refute it at one input. -/
def fnExactFoldedProductsWrong : ChangeSpec := { name := "fnExactFoldedProducts", fn := fun _ => fun
  | [d] => { results := [.lit (.bool false)], args := [d] }
  | _ => none }
def FnExactFoldedProductsWrongFalsely : Prop := fnExactFoldedProductsRow.holds Try.pinned (OpenSpec.ofChange fnExactFoldedProductsWrong)

/-- 'laws.FnExactSecondOfFirsts': WHATEVER THE INPUT: true; the input reads as it did. -/
def fnExactSecondOfFirstsSpec : ChangeSpec := { name := "fnExactSecondOfFirsts", fn := fun _ => fun
  | [d1, d2] => { results := [.lit (.bool true)], args := [d1, d2] }
  | _ => none }
def fnExactSecondOfFirstsRow : OpenClaim := { program := "yteponjafchejiaa", sum := "46a29f0495ec2d3ae00309050ce642e0bf7a14c795d39cfad1c1e1e890893952", func := "loop.example/g01198/laws.FnExactSecondOfFirsts", spec := "fnExactSecondOfFirsts", apart := false }
def FnExactSecondOfFirstsSaid : Prop := fnExactSecondOfFirstsRow.holds Try.pinned (OpenSpec.ofChange fnExactSecondOfFirstsSpec)

/-- ITS FALSE NEIGHBOUR: 'it returns false'. Refute it at one input. -/
def fnExactSecondOfFirstsWrong : ChangeSpec := { name := "fnExactSecondOfFirsts", fn := fun _ => fun
  | [d1, d2] => { results := [.lit (.bool false)], args := [d1, d2] }
  | _ => none }
def FnExactSecondOfFirstsWrongFalsely : Prop := fnExactSecondOfFirstsRow.holds Try.pinned (OpenSpec.ofChange fnExactSecondOfFirstsWrong)

/-- 'laws.FnExactCountUnfit': WHATEVER THE INPUT: true; the input reads as it did. -/
def fnExactCountUnfitSpec : ChangeSpec := { name := "fnExactCountUnfit", fn := fun _ => fun
  | [d1, d2] => { results := [.lit (.bool true)], args := [d1, d2] }
  | _ => none }
def fnExactCountUnfitRow : OpenClaim := { program := "yteponjafchejiaa", sum := "46a29f0495ec2d3ae00309050ce642e0bf7a14c795d39cfad1c1e1e890893952", func := "loop.example/g01198/laws.FnExactCountUnfit", spec := "fnExactCountUnfit", unfollowed := true, recurses := true, apart := false }
def FnExactCountUnfitSaid : Prop := fnExactCountUnfitRow.holds Try.pinned (OpenSpec.ofChange fnExactCountUnfitSpec)

/-- ITS FALSE NEIGHBOUR: 'it returns false'. Refute it at one input. -/
def fnExactCountUnfitWrong : ChangeSpec := { name := "fnExactCountUnfit", fn := fun _ => fun
  | [d1, d2] => { results := [.lit (.bool false)], args := [d1, d2] }
  | _ => none }
def FnExactCountUnfitWrongFalsely : Prop := fnExactCountUnfitRow.holds Try.pinned (OpenSpec.ofChange fnExactCountUnfitWrong)

/-- 'laws.FnExactSpreadWeights': WHATEVER THE INPUT: true; the input reads as it did. -/
def fnExactSpreadWeightsSpec : ChangeSpec := { name := "fnExactSpreadWeights", fn := fun _ => fun
  | [d1, d2] => { results := [.lit (.bool true)], args := [d1, d2] }
  | _ => none }
def fnExactSpreadWeightsRow : OpenClaim := { program := "yteponjafchejiaa", sum := "46a29f0495ec2d3ae00309050ce642e0bf7a14c795d39cfad1c1e1e890893952", func := "loop.example/g01198/laws.FnExactSpreadWeights", spec := "fnExactSpreadWeights", unfollowed := true, recurses := true, apart := false }
def FnExactSpreadWeightsSaid : Prop := fnExactSpreadWeightsRow.holds Try.pinned (OpenSpec.ofChange fnExactSpreadWeightsSpec)

/-- ITS FALSE NEIGHBOUR: 'it returns false'. Refute it at one input. -/
def fnExactSpreadWeightsWrong : ChangeSpec := { name := "fnExactSpreadWeights", fn := fun _ => fun
  | [d1, d2] => { results := [.lit (.bool false)], args := [d1, d2] }
  | _ => none }
def FnExactSpreadWeightsWrongFalsely : Prop := fnExactSpreadWeightsRow.holds Try.pinned (OpenSpec.ofChange fnExactSpreadWeightsWrong)

/-- 'laws.FnExactErrorBound': WHATEVER THE INPUT: true; the input reads as it did. -/
def fnExactErrorBoundSpec : ChangeSpec := { name := "fnExactErrorBound", fn := fun _ => fun
  | [d] => { results := [.lit (.bool true)], args := [d] }
  | _ => none }
def fnExactErrorBoundRow : OpenClaim := { program := "yteponjafchejiaa", sum := "46a29f0495ec2d3ae00309050ce642e0bf7a14c795d39cfad1c1e1e890893952", func := "loop.example/g01198/laws.FnExactErrorBound", spec := "fnExactErrorBound", apart := false }
def FnExactErrorBoundSaid : Prop := fnExactErrorBoundRow.holds Try.pinned (OpenSpec.ofChange fnExactErrorBoundSpec)

/-- ITS FALSE NEIGHBOUR: 'it returns false'. Refute it at one input. -/
def fnExactErrorBoundWrong : ChangeSpec := { name := "fnExactErrorBound", fn := fun _ => fun
  | [d] => { results := [.lit (.bool false)], args := [d] }
  | _ => none }
def FnExactErrorBoundWrongFalsely : Prop := fnExactErrorBoundRow.holds Try.pinned (OpenSpec.ofChange fnExactErrorBoundWrong)

/-- 'laws.FnExactScaleSignal': WHATEVER THE INPUT: true; the input reads as it did. -/
def fnExactScaleSignalSpec : ChangeSpec := { name := "fnExactScaleSignal", fn := fun _ => fun
  | [d1, d2] => { results := [.lit (.bool true)], args := [d1, d2] }
  | _ => none }
def fnExactScaleSignalRow : OpenClaim := { program := "yteponjafchejiaa", sum := "46a29f0495ec2d3ae00309050ce642e0bf7a14c795d39cfad1c1e1e890893952", func := "loop.example/g01198/laws.FnExactScaleSignal", spec := "fnExactScaleSignal", unfollowed := true, recurses := true, apart := false }
def FnExactScaleSignalSaid : Prop := fnExactScaleSignalRow.holds Try.pinned (OpenSpec.ofChange fnExactScaleSignalSpec)

/-- ITS FALSE NEIGHBOUR: 'it returns false'. Refute it at one input. -/
def fnExactScaleSignalWrong : ChangeSpec := { name := "fnExactScaleSignal", fn := fun _ => fun
  | [d1, d2] => { results := [.lit (.bool false)], args := [d1, d2] }
  | _ => none }
def FnExactScaleSignalWrongFalsely : Prop := fnExactScaleSignalRow.holds Try.pinned (OpenSpec.ofChange fnExactScaleSignalWrong)

/-- 'laws.FnExactBackWeights': WHATEVER THE INPUT: true; the input reads as it did. -/
def fnExactBackWeightsSpec : ChangeSpec := { name := "fnExactBackWeights", fn := fun _ => fun
  | [d] => { results := [.lit (.bool true)], args := [d] }
  | _ => none }
def fnExactBackWeightsRow : OpenClaim := { program := "yteponjafchejiaa", sum := "46a29f0495ec2d3ae00309050ce642e0bf7a14c795d39cfad1c1e1e890893952", func := "loop.example/g01198/laws.FnExactBackWeights", spec := "fnExactBackWeights", unfollowed := true, recurses := true, apart := false }
def FnExactBackWeightsSaid : Prop := fnExactBackWeightsRow.holds Try.pinned (OpenSpec.ofChange fnExactBackWeightsSpec)

/-- ITS FALSE NEIGHBOUR: 'it returns false'. Refute it at one input. -/
def fnExactBackWeightsWrong : ChangeSpec := { name := "fnExactBackWeights", fn := fun _ => fun
  | [d] => { results := [.lit (.bool false)], args := [d] }
  | _ => none }
def FnExactBackWeightsWrongFalsely : Prop := fnExactBackWeightsRow.holds Try.pinned (OpenSpec.ofChange fnExactBackWeightsWrong)

/-- 'laws.FnExactTimesIn': WHATEVER THE INPUT: true; the input reads as it did. -/
def fnExactTimesInSpec : ChangeSpec := { name := "fnExactTimesIn", fn := fun _ => fun
  | [d1, d2, d3, d4, d5] => { results := [.lit (.bool true)], args := [d1, d2, d3, d4, d5] }
  | _ => none }
def fnExactTimesInRow : OpenClaim := { program := "yteponjafchejiaa", sum := "46a29f0495ec2d3ae00309050ce642e0bf7a14c795d39cfad1c1e1e890893952", func := "loop.example/g01198/laws.FnExactTimesIn", spec := "fnExactTimesIn", apart := false }
def FnExactTimesInSaid : Prop := fnExactTimesInRow.holds Try.pinned (OpenSpec.ofChange fnExactTimesInSpec)

/-- ITS FALSE NEIGHBOUR: 'it returns false'. Refute it at one input. -/
def fnExactTimesInWrong : ChangeSpec := { name := "fnExactTimesIn", fn := fun _ => fun
  | [d1, d2, d3, d4, d5] => { results := [.lit (.bool false)], args := [d1, d2, d3, d4, d5] }
  | _ => none }
def FnExactTimesInWrongFalsely : Prop := fnExactTimesInRow.holds Try.pinned (OpenSpec.ofChange fnExactTimesInWrong)

/-- 'laws.FnExactRunningSums': WHATEVER THE INPUT: true; the input reads as it did. -/
def fnExactRunningSumsSpec : ChangeSpec := { name := "fnExactRunningSums", fn := fun _ => fun
  | [d] => { results := [.lit (.bool true)], args := [d] }
  | _ => none }
def fnExactRunningSumsRow : OpenClaim := { program := "yteponjafchejiaa", sum := "46a29f0495ec2d3ae00309050ce642e0bf7a14c795d39cfad1c1e1e890893952", func := "loop.example/g01198/laws.FnExactRunningSums", spec := "fnExactRunningSums", unfollowed := true, recurses := true, apart := false }
def FnExactRunningSumsSaid : Prop := fnExactRunningSumsRow.holds Try.pinned (OpenSpec.ofChange fnExactRunningSumsSpec)

/-- ITS FALSE NEIGHBOUR: 'it returns false'. Refute it at one input. -/
def fnExactRunningSumsWrong : ChangeSpec := { name := "fnExactRunningSums", fn := fun _ => fun
  | [d] => { results := [.lit (.bool false)], args := [d] }
  | _ => none }
def FnExactRunningSumsWrongFalsely : Prop := fnExactRunningSumsRow.holds Try.pinned (OpenSpec.ofChange fnExactRunningSumsWrong)

/-- 'laws.FnExactIsSymmetric': WHATEVER THE INPUT: true; the input reads as it did. -/
def fnExactIsSymmetricSpec : ChangeSpec := { name := "fnExactIsSymmetric", fn := fun _ => fun
  | [d] => { results := [.lit (.bool true)], args := [d] }
  | _ => none }
def fnExactIsSymmetricRow : OpenClaim := { program := "yteponjafchejiaa", sum := "46a29f0495ec2d3ae00309050ce642e0bf7a14c795d39cfad1c1e1e890893952", func := "loop.example/g01198/laws.FnExactIsSymmetric", spec := "fnExactIsSymmetric", unfollowed := true, recurses := true, apart := false }
def FnExactIsSymmetricSaid : Prop := fnExactIsSymmetricRow.holds Try.pinned (OpenSpec.ofChange fnExactIsSymmetricSpec)

/-- ITS FALSE NEIGHBOUR: 'it returns false'. Refute it at one input. -/
def fnExactIsSymmetricWrong : ChangeSpec := { name := "fnExactIsSymmetric", fn := fun _ => fun
  | [d] => { results := [.lit (.bool false)], args := [d] }
  | _ => none }
def FnExactIsSymmetricWrongFalsely : Prop := fnExactIsSymmetricRow.holds Try.pinned (OpenSpec.ofChange fnExactIsSymmetricWrong)

/- THE SECOND FORM. 'bulk': how many values and letters a reading holds, each counted each time it is reached (what is shared counts as often as it is met; a slice's spare places count too). A statement '..UptoSaid' is the law's where the arguments, and the package variables that the reading takes, are together of bulk at most 1048576: NARROWER than '..Said'. Prove '..Said' where nothing that the law and all that it calls make is longer than what came in: it says more and counts as full. Else prove '..UptoSaid'. A law counts once. -/
mutual
def uptoBulk {H : Type} : DataW H → Nat
  | .lit (.string bytes) => bytes.length + 1
  | .lit _ => 1
  | .nil => 1
  | .ptr d => uptoBulk d + 1
  | .slice elems spare => uptoBulkAll elems + uptoBulkAll spare + 1
  | .agg parts => uptoBulkAll parts + 1
  | .iface _ d => uptoBulk d + 1
  | .map entries => uptoBulkEntries entries + 1
  | .held _ => 1
def uptoBulkAll {H : Type} : List (DataW H) → Nat
  | [] => 0
  | d :: r => uptoBulk d + uptoBulkAll r
def uptoBulkEntries {H : Type} : List (Lit × DataW H) → Nat
  | [] => 0
  | x :: r => uptoBulkEntry x + uptoBulkEntries r
def uptoBulkEntry {H : Type} : Lit × DataW H → Nat
  | (.string bytes, d) => bytes.length + uptoBulk d + 1
  | (_, d) => uptoBulk d + 1
 end
def uptoSmall : (H : Type) → List (DataW H) → Bool := fun _ ds => decide (uptoBulkAll ds ≤ 1048576)
def OpenSpec.upto (s : _root_.Go.ChangeSpec) : _root_.Go.OpenSpec := { _root_.Go.OpenSpec.ofChange s with cond := some uptoSmall }

/-- 'laws.FnExactGainOfFirst', WHERE WHAT IT READS IS OF BULK AT MOST 1048576: true; the input reads as it did. -/
def fnExactGainOfFirstUptoRow : OpenClaim := { program := "yteponjafchejiaa", sum := "46a29f0495ec2d3ae00309050ce642e0bf7a14c795d39cfad1c1e1e890893952", func := "loop.example/g01198/laws.FnExactGainOfFirst", spec := "fnExactGainOfFirst", apart := false, narrowed := true }
def FnExactGainOfFirstUptoSaid : Prop := fnExactGainOfFirstUptoRow.holds Try.pinned (OpenSpec.upto fnExactGainOfFirstSpec)

/-- 'laws.FnExactDelaySignal', WHERE WHAT IT READS IS OF BULK AT MOST 1048576: true; the input reads as it did. -/
def fnExactDelaySignalUptoRow : OpenClaim := { program := "yteponjafchejiaa", sum := "46a29f0495ec2d3ae00309050ce642e0bf7a14c795d39cfad1c1e1e890893952", func := "loop.example/g01198/laws.FnExactDelaySignal", spec := "fnExactDelaySignal", unfollowed := true, recurses := true, apart := false, narrowed := true }
def FnExactDelaySignalUptoSaid : Prop := fnExactDelaySignalUptoRow.holds Try.pinned (OpenSpec.upto fnExactDelaySignalSpec)

/-- 'laws.FnExactFoldedProducts', WHERE WHAT IT READS IS OF BULK AT MOST 1048576: true; the input reads as it did. -/
def fnExactFoldedProductsUptoRow : OpenClaim := { program := "yteponjafchejiaa", sum := "46a29f0495ec2d3ae00309050ce642e0bf7a14c795d39cfad1c1e1e890893952", func := "loop.example/g01198/laws.FnExactFoldedProducts", spec := "fnExactFoldedProducts", unfollowed := true, recurses := true, apart := false, narrowed := true }
def FnExactFoldedProductsUptoSaid : Prop := fnExactFoldedProductsUptoRow.holds Try.pinned (OpenSpec.upto fnExactFoldedProductsSpec)

/-- 'laws.FnExactSecondOfFirsts', WHERE WHAT IT READS IS OF BULK AT MOST 1048576: true; the input reads as it did. -/
def fnExactSecondOfFirstsUptoRow : OpenClaim := { program := "yteponjafchejiaa", sum := "46a29f0495ec2d3ae00309050ce642e0bf7a14c795d39cfad1c1e1e890893952", func := "loop.example/g01198/laws.FnExactSecondOfFirsts", spec := "fnExactSecondOfFirsts", apart := false, narrowed := true }
def FnExactSecondOfFirstsUptoSaid : Prop := fnExactSecondOfFirstsUptoRow.holds Try.pinned (OpenSpec.upto fnExactSecondOfFirstsSpec)

/-- 'laws.FnExactCountUnfit', WHERE WHAT IT READS IS OF BULK AT MOST 1048576: true; the input reads as it did. -/
def fnExactCountUnfitUptoRow : OpenClaim := { program := "yteponjafchejiaa", sum := "46a29f0495ec2d3ae00309050ce642e0bf7a14c795d39cfad1c1e1e890893952", func := "loop.example/g01198/laws.FnExactCountUnfit", spec := "fnExactCountUnfit", unfollowed := true, recurses := true, apart := false, narrowed := true }
def FnExactCountUnfitUptoSaid : Prop := fnExactCountUnfitUptoRow.holds Try.pinned (OpenSpec.upto fnExactCountUnfitSpec)

/-- 'laws.FnExactSpreadWeights', WHERE WHAT IT READS IS OF BULK AT MOST 1048576: true; the input reads as it did. -/
def fnExactSpreadWeightsUptoRow : OpenClaim := { program := "yteponjafchejiaa", sum := "46a29f0495ec2d3ae00309050ce642e0bf7a14c795d39cfad1c1e1e890893952", func := "loop.example/g01198/laws.FnExactSpreadWeights", spec := "fnExactSpreadWeights", unfollowed := true, recurses := true, apart := false, narrowed := true }
def FnExactSpreadWeightsUptoSaid : Prop := fnExactSpreadWeightsUptoRow.holds Try.pinned (OpenSpec.upto fnExactSpreadWeightsSpec)

/-- 'laws.FnExactErrorBound', WHERE WHAT IT READS IS OF BULK AT MOST 1048576: true; the input reads as it did. -/
def fnExactErrorBoundUptoRow : OpenClaim := { program := "yteponjafchejiaa", sum := "46a29f0495ec2d3ae00309050ce642e0bf7a14c795d39cfad1c1e1e890893952", func := "loop.example/g01198/laws.FnExactErrorBound", spec := "fnExactErrorBound", apart := false, narrowed := true }
def FnExactErrorBoundUptoSaid : Prop := fnExactErrorBoundUptoRow.holds Try.pinned (OpenSpec.upto fnExactErrorBoundSpec)

/-- 'laws.FnExactScaleSignal', WHERE WHAT IT READS IS OF BULK AT MOST 1048576: true; the input reads as it did. -/
def fnExactScaleSignalUptoRow : OpenClaim := { program := "yteponjafchejiaa", sum := "46a29f0495ec2d3ae00309050ce642e0bf7a14c795d39cfad1c1e1e890893952", func := "loop.example/g01198/laws.FnExactScaleSignal", spec := "fnExactScaleSignal", unfollowed := true, recurses := true, apart := false, narrowed := true }
def FnExactScaleSignalUptoSaid : Prop := fnExactScaleSignalUptoRow.holds Try.pinned (OpenSpec.upto fnExactScaleSignalSpec)

/-- 'laws.FnExactBackWeights', WHERE WHAT IT READS IS OF BULK AT MOST 1048576: true; the input reads as it did. -/
def fnExactBackWeightsUptoRow : OpenClaim := { program := "yteponjafchejiaa", sum := "46a29f0495ec2d3ae00309050ce642e0bf7a14c795d39cfad1c1e1e890893952", func := "loop.example/g01198/laws.FnExactBackWeights", spec := "fnExactBackWeights", unfollowed := true, recurses := true, apart := false, narrowed := true }
def FnExactBackWeightsUptoSaid : Prop := fnExactBackWeightsUptoRow.holds Try.pinned (OpenSpec.upto fnExactBackWeightsSpec)

/-- 'laws.FnExactTimesIn', WHERE WHAT IT READS IS OF BULK AT MOST 1048576: true; the input reads as it did. -/
def fnExactTimesInUptoRow : OpenClaim := { program := "yteponjafchejiaa", sum := "46a29f0495ec2d3ae00309050ce642e0bf7a14c795d39cfad1c1e1e890893952", func := "loop.example/g01198/laws.FnExactTimesIn", spec := "fnExactTimesIn", apart := false, narrowed := true }
def FnExactTimesInUptoSaid : Prop := fnExactTimesInUptoRow.holds Try.pinned (OpenSpec.upto fnExactTimesInSpec)

/-- 'laws.FnExactRunningSums', WHERE WHAT IT READS IS OF BULK AT MOST 1048576: true; the input reads as it did. -/
def fnExactRunningSumsUptoRow : OpenClaim := { program := "yteponjafchejiaa", sum := "46a29f0495ec2d3ae00309050ce642e0bf7a14c795d39cfad1c1e1e890893952", func := "loop.example/g01198/laws.FnExactRunningSums", spec := "fnExactRunningSums", unfollowed := true, recurses := true, apart := false, narrowed := true }
def FnExactRunningSumsUptoSaid : Prop := fnExactRunningSumsUptoRow.holds Try.pinned (OpenSpec.upto fnExactRunningSumsSpec)

/-- 'laws.FnExactIsSymmetric', WHERE WHAT IT READS IS OF BULK AT MOST 1048576: true; the input reads as it did. -/
def fnExactIsSymmetricUptoRow : OpenClaim := { program := "yteponjafchejiaa", sum := "46a29f0495ec2d3ae00309050ce642e0bf7a14c795d39cfad1c1e1e890893952", func := "loop.example/g01198/laws.FnExactIsSymmetric", spec := "fnExactIsSymmetric", unfollowed := true, recurses := true, apart := false, narrowed := true }
def FnExactIsSymmetricUptoSaid : Prop := fnExactIsSymmetricUptoRow.holds Try.pinned (OpenSpec.upto fnExactIsSymmetricSpec)

end Rows
end Go.Proofs.Yteponjafchejiaa
