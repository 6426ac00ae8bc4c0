/-
  No cell of these rows narrows 'for every input' (looked for: loops, veiled, ifaces, maps, wideKeys, modest, calm, conditions, laid).
  DERIVED. THE GIVEN ROWS OF THIS SEAT. 11 by the template 'for every input the law returns true; each argument reads behind the call as it read before'; 0 by the template 'total and deterministic' (their statements: YtgancmcbldmjaaaTotals.lean).
  GIVEN WITH THE SEED: the statements are not yours to turn. If you find one false, say at which input.
  Laid BY PROGRAM, IN A SANDBOX (cutbox-rows.mjs): the forced cells as the released guide's own fill.sh prints them over the translation c5929721f8333bf1… (all of the seat's roots in one cut). By AI agents, Wed Nov 11 2026. No macro, syntax, notation, axiom, sorry.
-/
import Derived.Test.YtgancmcbldmjaaaChecked
import GoSem.Claim
import GoSem.ClaimJoined
import GoSem.ClaimMapViews
import Derived.JoinedTies
import Derived.KernelRfl
namespace Go.Proofs.Ytgancmcbldmjaaa
/- THE CELL 'sum', in the pinned program and in every row, IS THE sha256 OF THE DUMP (.gsa) THAT YtgancmcbldmjaaaProg.lean LOADS. Nothing in Lean hashes anything: it is a label: what it is worth is what the hold of that sum in a sandbox is worth. -/
noncomputable def Try.pinned : Pinned := { name := "ytgancmcbldmjaaa", sum := "c5929721f8333bf17a866413ee5e4920e3fb68b0f64ed052d4a67335b0fbc745", checked := Try.checked }
namespace Rows
def none {H : Type} : Left H := { results := [], args := [] }

/-- 'laws.FnExactGainAtHalf': WHATEVER THE INPUT: true; the input reads as it did. -/
def fnExactGainAtHalfSpec : ChangeSpec := { name := "fnExactGainAtHalf", fn := fun _ => fun
  | [d] => { results := [.lit (.bool true)], args := [d] }
  | _ => none }
def fnExactGainAtHalfRow : OpenClaim := { program := "ytgancmcbldmjaaa", sum := "c5929721f8333bf17a866413ee5e4920e3fb68b0f64ed052d4a67335b0fbc745", func := "loop.example/g01198/laws.FnExactGainAtHalf", spec := "fnExactGainAtHalf", unfollowed := true, recurses := true, apart := false }
def FnExactGainAtHalfSaid : Prop := fnExactGainAtHalfRow.holds Try.pinned (OpenSpec.ofChange fnExactGainAtHalfSpec)

/-- ITS FALSE NEIGHBOUR: 'it returns false'. Refute it at one input. -/
def fnExactGainAtHalfWrong : ChangeSpec := { name := "fnExactGainAtHalf", fn := fun _ => fun
  | [d] => { results := [.lit (.bool false)], args := [d] }
  | _ => none }
def FnExactGainAtHalfWrongFalsely : Prop := fnExactGainAtHalfRow.holds Try.pinned (OpenSpec.ofChange fnExactGainAtHalfWrong)

/-- 'laws.FnExactEnergyOf': WHATEVER THE INPUT: true; the input reads as it did. -/
def fnExactEnergyOfSpec : ChangeSpec := { name := "fnExactEnergyOf", fn := fun _ => fun
  | [d] => { results := [.lit (.bool true)], args := [d] }
  | _ => none }
def fnExactEnergyOfRow : OpenClaim := { program := "ytgancmcbldmjaaa", sum := "c5929721f8333bf17a866413ee5e4920e3fb68b0f64ed052d4a67335b0fbc745", func := "loop.example/g01198/laws.FnExactEnergyOf", spec := "fnExactEnergyOf", unfollowed := true, recurses := true, apart := false }
def FnExactEnergyOfSaid : Prop := fnExactEnergyOfRow.holds Try.pinned (OpenSpec.ofChange fnExactEnergyOfSpec)

/-- ITS FALSE NEIGHBOUR: 'it returns false'. Refute it at one input. -/
def fnExactEnergyOfWrong : ChangeSpec := { name := "fnExactEnergyOf", fn := fun _ => fun
  | [d] => { results := [.lit (.bool false)], args := [d] }
  | _ => none }
def FnExactEnergyOfWrongFalsely : Prop := fnExactEnergyOfRow.holds Try.pinned (OpenSpec.ofChange fnExactEnergyOfWrong)

/-- 'laws.FnWeightsMirrored': WHATEVER THE INPUT: true; the input reads as it did. -/
def fnWeightsMirroredSpec : ChangeSpec := { name := "fnWeightsMirrored", fn := fun _ => fun
  | [d1, d2] => { results := [.lit (.bool true)], args := [d1, d2] }
  | _ => none }
def fnWeightsMirroredRow : OpenClaim := { program := "ytgancmcbldmjaaa", sum := "c5929721f8333bf17a866413ee5e4920e3fb68b0f64ed052d4a67335b0fbc745", func := "loop.example/g01198/laws.FnWeightsMirrored", spec := "fnWeightsMirrored", unfollowed := true, recurses := true, apart := false }
def FnWeightsMirroredSaid : Prop := fnWeightsMirroredRow.holds Try.pinned (OpenSpec.ofChange fnWeightsMirroredSpec)

/-- ITS FALSE NEIGHBOUR: 'it returns false'. Refute it at one input. -/
def fnWeightsMirroredWrong : ChangeSpec := { name := "fnWeightsMirrored", fn := fun _ => fun
  | [d1, d2] => { results := [.lit (.bool false)], args := [d1, d2] }
  | _ => none }
def FnWeightsMirroredWrongFalsely : Prop := fnWeightsMirroredRow.holds Try.pinned (OpenSpec.ofChange fnWeightsMirroredWrong)

/-- 'laws.FnExactFitNumber': WHATEVER THE INPUT: true; the input reads as it did. -/
def fnExactFitNumberSpec : ChangeSpec := { name := "fnExactFitNumber", fn := fun _ => fun
  | [d1, d2] => { results := [.lit (.bool true)], args := [d1, d2] }
  | _ => none }
def fnExactFitNumberRow : OpenClaim := { program := "ytgancmcbldmjaaa", sum := "c5929721f8333bf17a866413ee5e4920e3fb68b0f64ed052d4a67335b0fbc745", func := "loop.example/g01198/laws.FnExactFitNumber", spec := "fnExactFitNumber", apart := false }
def FnExactFitNumberSaid : Prop := fnExactFitNumberRow.holds Try.pinned (OpenSpec.ofChange fnExactFitNumberSpec)

/-- ITS FALSE NEIGHBOUR: 'it returns false'. Refute it at one input. -/
def fnExactFitNumberWrong : ChangeSpec := { name := "fnExactFitNumber", fn := fun _ => fun
  | [d1, d2] => { results := [.lit (.bool false)], args := [d1, d2] }
  | _ => none }
def FnExactFitNumberWrongFalsely : Prop := fnExactFitNumberRow.holds Try.pinned (OpenSpec.ofChange fnExactFitNumberWrong)

/-- 'laws.FnExactAddIn': WHATEVER THE INPUT: true; the input reads as it did. -/
def fnExactAddInSpec : ChangeSpec := { name := "fnExactAddIn", fn := fun _ => fun
  | [d1, d2, d3] => { results := [.lit (.bool true)], args := [d1, d2, d3] }
  | _ => none }
def fnExactAddInRow : OpenClaim := { program := "ytgancmcbldmjaaa", sum := "c5929721f8333bf17a866413ee5e4920e3fb68b0f64ed052d4a67335b0fbc745", func := "loop.example/g01198/laws.FnExactAddIn", spec := "fnExactAddIn", apart := false }
def FnExactAddInSaid : Prop := fnExactAddInRow.holds Try.pinned (OpenSpec.ofChange fnExactAddInSpec)

/-- ITS FALSE NEIGHBOUR: 'it returns false'. Refute it at one input. -/
def fnExactAddInWrong : ChangeSpec := { name := "fnExactAddIn", fn := fun _ => fun
  | [d1, d2, d3] => { results := [.lit (.bool false)], args := [d1, d2, d3] }
  | _ => none }
def FnExactAddInWrongFalsely : Prop := fnExactAddInRow.holds Try.pinned (OpenSpec.ofChange fnExactAddInWrong)

/-- 'laws.FnExactLessIn': WHATEVER THE INPUT: true; the input reads as it did. -/
def fnExactLessInSpec : ChangeSpec := { name := "fnExactLessIn", fn := fun _ => fun
  | [d1, d2, d3] => { results := [.lit (.bool true)], args := [d1, d2, d3] }
  | _ => none }
def fnExactLessInRow : OpenClaim := { program := "ytgancmcbldmjaaa", sum := "c5929721f8333bf17a866413ee5e4920e3fb68b0f64ed052d4a67335b0fbc745", func := "loop.example/g01198/laws.FnExactLessIn", spec := "fnExactLessIn", apart := false }
def FnExactLessInSaid : Prop := fnExactLessInRow.holds Try.pinned (OpenSpec.ofChange fnExactLessInSpec)

/-- ITS FALSE NEIGHBOUR: 'it returns false'. Refute it at one input. -/
def fnExactLessInWrong : ChangeSpec := { name := "fnExactLessIn", fn := fun _ => fun
  | [d1, d2, d3] => { results := [.lit (.bool false)], args := [d1, d2, d3] }
  | _ => none }
def FnExactLessInWrongFalsely : Prop := fnExactLessInRow.holds Try.pinned (OpenSpec.ofChange fnExactLessInWrong)

/-- 'laws.FnExactGainOf': WHATEVER THE INPUT: true; the input reads as it did. -/
def fnExactGainOfSpec : ChangeSpec := { name := "fnExactGainOf", fn := fun _ => fun
  | [d] => { results := [.lit (.bool true)], args := [d] }
  | _ => none }
def fnExactGainOfRow : OpenClaim := { program := "ytgancmcbldmjaaa", sum := "c5929721f8333bf17a866413ee5e4920e3fb68b0f64ed052d4a67335b0fbc745", func := "loop.example/g01198/laws.FnExactGainOf", spec := "fnExactGainOf", unfollowed := true, recurses := true, apart := false }
def FnExactGainOfSaid : Prop := fnExactGainOfRow.holds Try.pinned (OpenSpec.ofChange fnExactGainOfSpec)

/-- ITS FALSE NEIGHBOUR: 'it returns false'. Refute it at one input. -/
def fnExactGainOfWrong : ChangeSpec := { name := "fnExactGainOf", fn := fun _ => fun
  | [d] => { results := [.lit (.bool false)], args := [d] }
  | _ => none }
def FnExactGainOfWrongFalsely : Prop := fnExactGainOfRow.holds Try.pinned (OpenSpec.ofChange fnExactGainOfWrong)

/-- 'laws.FnExactRootsOf': WHATEVER THE INPUT: true; the input reads as it did. -/
def fnExactRootsOfSpec : ChangeSpec := { name := "fnExactRootsOf", fn := fun _ => fun
  | [d] => { results := [.lit (.bool true)], args := [d] }
  | _ => none }
def fnExactRootsOfRow : OpenClaim := { program := "ytgancmcbldmjaaa", sum := "c5929721f8333bf17a866413ee5e4920e3fb68b0f64ed052d4a67335b0fbc745", func := "loop.example/g01198/laws.FnExactRootsOf", spec := "fnExactRootsOf", apart := false }
def FnExactRootsOfSaid : Prop := fnExactRootsOfRow.holds Try.pinned (OpenSpec.ofChange fnExactRootsOfSpec)

/-- ITS FALSE NEIGHBOUR: 'it returns false'. Refute it at one input. -/
def fnExactRootsOfWrong : ChangeSpec := { name := "fnExactRootsOf", fn := fun _ => fun
  | [d] => { results := [.lit (.bool false)], args := [d] }
  | _ => none }
def FnExactRootsOfWrongFalsely : Prop := fnExactRootsOfRow.holds Try.pinned (OpenSpec.ofChange fnExactRootsOfWrong)

/-- 'laws.FnExactSumOfSignal': WHATEVER THE INPUT: true; the input reads as it did. -/
def fnExactSumOfSignalSpec : ChangeSpec := { name := "fnExactSumOfSignal", fn := fun _ => fun
  | [d] => { results := [.lit (.bool true)], args := [d] }
  | _ => none }
def fnExactSumOfSignalRow : OpenClaim := { program := "ytgancmcbldmjaaa", sum := "c5929721f8333bf17a866413ee5e4920e3fb68b0f64ed052d4a67335b0fbc745", func := "loop.example/g01198/laws.FnExactSumOfSignal", spec := "fnExactSumOfSignal", unfollowed := true, recurses := true, apart := false }
def FnExactSumOfSignalSaid : Prop := fnExactSumOfSignalRow.holds Try.pinned (OpenSpec.ofChange fnExactSumOfSignalSpec)

/-- ITS FALSE NEIGHBOUR: 'it returns false'. Refute it at one input. -/
def fnExactSumOfSignalWrong : ChangeSpec := { name := "fnExactSumOfSignal", fn := fun _ => fun
  | [d] => { results := [.lit (.bool false)], args := [d] }
  | _ => none }
def FnExactSumOfSignalWrongFalsely : Prop := fnExactSumOfSignalRow.holds Try.pinned (OpenSpec.ofChange fnExactSumOfSignalWrong)

/-- 'laws.FnExactSizeGain': WHATEVER THE INPUT: true; the input reads as it did. -/
def fnExactSizeGainSpec : ChangeSpec := { name := "fnExactSizeGain", fn := fun _ => fun
  | [d] => { results := [.lit (.bool true)], args := [d] }
  | _ => none }
def fnExactSizeGainRow : OpenClaim := { program := "ytgancmcbldmjaaa", sum := "c5929721f8333bf17a866413ee5e4920e3fb68b0f64ed052d4a67335b0fbc745", func := "loop.example/g01198/laws.FnExactSizeGain", spec := "fnExactSizeGain", unfollowed := true, recurses := true, apart := false }
def FnExactSizeGainSaid : Prop := fnExactSizeGainRow.holds Try.pinned (OpenSpec.ofChange fnExactSizeGainSpec)

/-- ITS FALSE NEIGHBOUR: 'it returns false'. Refute it at one input. -/
def fnExactSizeGainWrong : ChangeSpec := { name := "fnExactSizeGain", fn := fun _ => fun
  | [d] => { results := [.lit (.bool false)], args := [d] }
  | _ => none }
def FnExactSizeGainWrongFalsely : Prop := fnExactSizeGainRow.holds Try.pinned (OpenSpec.ofChange fnExactSizeGainWrong)

/-- 'laws.FnExactPeakOf': WHATEVER THE INPUT: true; the input reads as it did. -/
def fnExactPeakOfSpec : ChangeSpec := { name := "fnExactPeakOf", fn := fun _ => fun
  | [d] => { results := [.lit (.bool true)], args := [d] }
  | _ => none }
def fnExactPeakOfRow : OpenClaim := { program := "ytgancmcbldmjaaa", sum := "c5929721f8333bf17a866413ee5e4920e3fb68b0f64ed052d4a67335b0fbc745", func := "loop.example/g01198/laws.FnExactPeakOf", spec := "fnExactPeakOf", unfollowed := true, recurses := true, apart := false }
def FnExactPeakOfSaid : Prop := fnExactPeakOfRow.holds Try.pinned (OpenSpec.ofChange fnExactPeakOfSpec)

/-- ITS FALSE NEIGHBOUR: 'it returns false'. Refute it at one input. -/
def fnExactPeakOfWrong : ChangeSpec := { name := "fnExactPeakOf", fn := fun _ => fun
  | [d] => { results := [.lit (.bool false)], args := [d] }
  | _ => none }
def FnExactPeakOfWrongFalsely : Prop := fnExactPeakOfRow.holds Try.pinned (OpenSpec.ofChange fnExactPeakOfWrong)

/- THE SECOND FORM. 'bulk': how many values and letters a reading holds, each counted each time it is reached (what is shared counts as often as it is met; a slice's spare places count too). A statement '..UptoSaid' is the law's where the arguments, and the package variables that the reading takes, are together of bulk at most 1048576: NARROWER than '..Said'. Prove '..Said' where nothing that the law and all that it calls make is longer than what came in: it says more and counts as full. Else prove '..UptoSaid'. A law counts once. -/
mutual
def uptoBulk {H : Type} : DataW H → Nat
  | .lit (.string bytes) => bytes.length + 1
  | .lit _ => 1
  | .nil => 1
  | .ptr d => uptoBulk d + 1
  | .slice elems spare => uptoBulkAll elems + uptoBulkAll spare + 1
  | .agg parts => uptoBulkAll parts + 1
  | .iface _ d => uptoBulk d + 1
  | .map entries => uptoBulkEntries entries + 1
  | .held _ => 1
def uptoBulkAll {H : Type} : List (DataW H) → Nat
  | [] => 0
  | d :: r => uptoBulk d + uptoBulkAll r
def uptoBulkEntries {H : Type} : List (Lit × DataW H) → Nat
  | [] => 0
  | x :: r => uptoBulkEntry x + uptoBulkEntries r
def uptoBulkEntry {H : Type} : Lit × DataW H → Nat
  | (.string bytes, d) => bytes.length + uptoBulk d + 1
  | (_, d) => uptoBulk d + 1
 end
def uptoSmall : (H : Type) → List (DataW H) → Bool := fun _ ds => decide (uptoBulkAll ds ≤ 1048576)
def OpenSpec.upto (s : _root_.Go.ChangeSpec) : _root_.Go.OpenSpec := { _root_.Go.OpenSpec.ofChange s with cond := some uptoSmall }

/-- 'laws.FnExactGainAtHalf', WHERE WHAT IT READS IS OF BULK AT MOST 1048576: true; the input reads as it did. -/
def fnExactGainAtHalfUptoRow : OpenClaim := { program := "ytgancmcbldmjaaa", sum := "c5929721f8333bf17a866413ee5e4920e3fb68b0f64ed052d4a67335b0fbc745", func := "loop.example/g01198/laws.FnExactGainAtHalf", spec := "fnExactGainAtHalf", unfollowed := true, recurses := true, apart := false, narrowed := true }
def FnExactGainAtHalfUptoSaid : Prop := fnExactGainAtHalfUptoRow.holds Try.pinned (OpenSpec.upto fnExactGainAtHalfSpec)

/-- 'laws.FnExactEnergyOf', WHERE WHAT IT READS IS OF BULK AT MOST 1048576: true; the input reads as it did. -/
def fnExactEnergyOfUptoRow : OpenClaim := { program := "ytgancmcbldmjaaa", sum := "c5929721f8333bf17a866413ee5e4920e3fb68b0f64ed052d4a67335b0fbc745", func := "loop.example/g01198/laws.FnExactEnergyOf", spec := "fnExactEnergyOf", unfollowed := true, recurses := true, apart := false, narrowed := true }
def FnExactEnergyOfUptoSaid : Prop := fnExactEnergyOfUptoRow.holds Try.pinned (OpenSpec.upto fnExactEnergyOfSpec)

/-- 'laws.FnWeightsMirrored', WHERE WHAT IT READS IS OF BULK AT MOST 1048576: true; the input reads as it did. -/
def fnWeightsMirroredUptoRow : OpenClaim := { program := "ytgancmcbldmjaaa", sum := "c5929721f8333bf17a866413ee5e4920e3fb68b0f64ed052d4a67335b0fbc745", func := "loop.example/g01198/laws.FnWeightsMirrored", spec := "fnWeightsMirrored", unfollowed := true, recurses := true, apart := false, narrowed := true }
def FnWeightsMirroredUptoSaid : Prop := fnWeightsMirroredUptoRow.holds Try.pinned (OpenSpec.upto fnWeightsMirroredSpec)

/-- 'laws.FnExactFitNumber', WHERE WHAT IT READS IS OF BULK AT MOST 1048576: true; the input reads as it did. -/
def fnExactFitNumberUptoRow : OpenClaim := { program := "ytgancmcbldmjaaa", sum := "c5929721f8333bf17a866413ee5e4920e3fb68b0f64ed052d4a67335b0fbc745", func := "loop.example/g01198/laws.FnExactFitNumber", spec := "fnExactFitNumber", apart := false, narrowed := true }
def FnExactFitNumberUptoSaid : Prop := fnExactFitNumberUptoRow.holds Try.pinned (OpenSpec.upto fnExactFitNumberSpec)

/-- 'laws.FnExactAddIn', WHERE WHAT IT READS IS OF BULK AT MOST 1048576: true; the input reads as it did. -/
def fnExactAddInUptoRow : OpenClaim := { program := "ytgancmcbldmjaaa", sum := "c5929721f8333bf17a866413ee5e4920e3fb68b0f64ed052d4a67335b0fbc745", func := "loop.example/g01198/laws.FnExactAddIn", spec := "fnExactAddIn", apart := false, narrowed := true }
def FnExactAddInUptoSaid : Prop := fnExactAddInUptoRow.holds Try.pinned (OpenSpec.upto fnExactAddInSpec)

/-- 'laws.FnExactLessIn', WHERE WHAT IT READS IS OF BULK AT MOST 1048576: true; the input reads as it did. -/
def fnExactLessInUptoRow : OpenClaim := { program := "ytgancmcbldmjaaa", sum := "c5929721f8333bf17a866413ee5e4920e3fb68b0f64ed052d4a67335b0fbc745", func := "loop.example/g01198/laws.FnExactLessIn", spec := "fnExactLessIn", apart := false, narrowed := true }
def FnExactLessInUptoSaid : Prop := fnExactLessInUptoRow.holds Try.pinned (OpenSpec.upto fnExactLessInSpec)

/-- 'laws.FnExactGainOf', WHERE WHAT IT READS IS OF BULK AT MOST 1048576: true; the input reads as it did. -/
def fnExactGainOfUptoRow : OpenClaim := { program := "ytgancmcbldmjaaa", sum := "c5929721f8333bf17a866413ee5e4920e3fb68b0f64ed052d4a67335b0fbc745", func := "loop.example/g01198/laws.FnExactGainOf", spec := "fnExactGainOf", unfollowed := true, recurses := true, apart := false, narrowed := true }
def FnExactGainOfUptoSaid : Prop := fnExactGainOfUptoRow.holds Try.pinned (OpenSpec.upto fnExactGainOfSpec)

/-- 'laws.FnExactRootsOf', WHERE WHAT IT READS IS OF BULK AT MOST 1048576: true; the input reads as it did. -/
def fnExactRootsOfUptoRow : OpenClaim := { program := "ytgancmcbldmjaaa", sum := "c5929721f8333bf17a866413ee5e4920e3fb68b0f64ed052d4a67335b0fbc745", func := "loop.example/g01198/laws.FnExactRootsOf", spec := "fnExactRootsOf", apart := false, narrowed := true }
def FnExactRootsOfUptoSaid : Prop := fnExactRootsOfUptoRow.holds Try.pinned (OpenSpec.upto fnExactRootsOfSpec)

/-- 'laws.FnExactSumOfSignal', WHERE WHAT IT READS IS OF BULK AT MOST 1048576: true; the input reads as it did. -/
def fnExactSumOfSignalUptoRow : OpenClaim := { program := "ytgancmcbldmjaaa", sum := "c5929721f8333bf17a866413ee5e4920e3fb68b0f64ed052d4a67335b0fbc745", func := "loop.example/g01198/laws.FnExactSumOfSignal", spec := "fnExactSumOfSignal", unfollowed := true, recurses := true, apart := false, narrowed := true }
def FnExactSumOfSignalUptoSaid : Prop := fnExactSumOfSignalUptoRow.holds Try.pinned (OpenSpec.upto fnExactSumOfSignalSpec)

/-- 'laws.FnExactSizeGain', WHERE WHAT IT READS IS OF BULK AT MOST 1048576: true; the input reads as it did. -/
def fnExactSizeGainUptoRow : OpenClaim := { program := "ytgancmcbldmjaaa", sum := "c5929721f8333bf17a866413ee5e4920e3fb68b0f64ed052d4a67335b0fbc745", func := "loop.example/g01198/laws.FnExactSizeGain", spec := "fnExactSizeGain", unfollowed := true, recurses := true, apart := false, narrowed := true }
def FnExactSizeGainUptoSaid : Prop := fnExactSizeGainUptoRow.holds Try.pinned (OpenSpec.upto fnExactSizeGainSpec)

/-- 'laws.FnExactPeakOf', WHERE WHAT IT READS IS OF BULK AT MOST 1048576: true; the input reads as it did. -/
def fnExactPeakOfUptoRow : OpenClaim := { program := "ytgancmcbldmjaaa", sum := "c5929721f8333bf17a866413ee5e4920e3fb68b0f64ed052d4a67335b0fbc745", func := "loop.example/g01198/laws.FnExactPeakOf", spec := "fnExactPeakOf", unfollowed := true, recurses := true, apart := false, narrowed := true }
def FnExactPeakOfUptoSaid : Prop := fnExactPeakOfUptoRow.holds Try.pinned (OpenSpec.upto fnExactPeakOfSpec)

end Rows
end Go.Proofs.Ytgancmcbldmjaaa
