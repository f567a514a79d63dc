/-
  No cell of these rows narrows 'for every input' (looked for: loops, veiled, ifaces, maps, wideKeys, modest, calm, conditions, laid).
  DERIVED. THE GIVEN ROWS OF THIS SEAT. 11 by the template 'for every input the law returns true; each argument reads behind the call as it read before'; 0 by the template 'total and deterministic' (their statements: YtimalebcbfhgaaaTotals.lean).
  GIVEN WITH THE SEED: the statements are not yours to turn. If you find one false, say at which input.
  Laid BY PROGRAM, IN A SANDBOX (cutbox-rows.mjs): the forced cells as the released guide's own fill.sh prints them over the translation a7515b3dd0ffedc3… (all of the seat's roots in one cut). By AI agents, Wed Nov 11 2026. No macro, syntax, notation, axiom, sorry.
-/
import Derived.Test.YtimalebcbfhgaaaChecked
import GoSem.Claim
import GoSem.ClaimJoined
import GoSem.ClaimMapViews
import Derived.JoinedTies
import Derived.KernelRfl
namespace Go.Proofs.Ytimalebcbfhgaaa
/- THE CELL 'sum', in the pinned program and in every row, IS THE sha256 OF THE DUMP (.gsa) THAT YtimalebcbfhgaaaProg.lean LOADS. Nothing in Lean hashes anything: it is a label: what it is worth is what the hold of that sum in a sandbox is worth. -/
noncomputable def Try.pinned : Pinned := { name := "ytimalebcbfhgaaa", sum := "a7515b3dd0ffedc3688e13eb1c3c5baae3d4537dd1561f00c231b21b2f2fe86a", checked := Try.checked }
namespace Rows
def none {H : Type} : Left H := { results := [], args := [] }

/-- 'annalistlaw04.WeightsList': WHATEVER THE INPUT: true; the input reads as it did. -/
def weightsListSpec : ChangeSpec := { name := "weightsList", fn := fun _ => fun
  | [d] => { results := [.lit (.bool true)], args := [d] }
  | _ => none }
def weightsListRow : OpenClaim := { program := "ytimalebcbfhgaaa", sum := "a7515b3dd0ffedc3688e13eb1c3c5baae3d4537dd1561f00c231b21b2f2fe86a", func := "annalist/annalistlaw04.WeightsList", spec := "weightsList", inPlace := ["math.Float64frombits", "math.Float64bits"], apart := false }
def WeightsListSaid : Prop := weightsListRow.holds Try.pinned (OpenSpec.ofChange weightsListSpec)

/-- ITS FALSE NEIGHBOUR: 'it returns false'. Refute it at one input. -/
def weightsListWrong : ChangeSpec := { name := "weightsList", fn := fun _ => fun
  | [d] => { results := [.lit (.bool false)], args := [d] }
  | _ => none }
def WeightsListWrongFalsely : Prop := weightsListRow.holds Try.pinned (OpenSpec.ofChange weightsListWrong)

/-- 'annalistlaw04.WeightsOrder': WHATEVER THE INPUT: true; the input reads as it did. -/
def weightsOrderSpec : ChangeSpec := { name := "weightsOrder", fn := fun _ => fun
  | [d1, d2] => { results := [.lit (.bool true)], args := [d1, d2] }
  | _ => none }
def weightsOrderRow : OpenClaim := { program := "ytimalebcbfhgaaa", sum := "a7515b3dd0ffedc3688e13eb1c3c5baae3d4537dd1561f00c231b21b2f2fe86a", func := "annalist/annalistlaw04.WeightsOrder", spec := "weightsOrder", inPlace := ["math.Float64frombits", "math.Float64bits"], apart := false }
def WeightsOrderSaid : Prop := weightsOrderRow.holds Try.pinned (OpenSpec.ofChange weightsOrderSpec)

/-- ITS FALSE NEIGHBOUR: 'it returns false'. Refute it at one input. -/
def weightsOrderWrong : ChangeSpec := { name := "weightsOrder", fn := fun _ => fun
  | [d1, d2] => { results := [.lit (.bool false)], args := [d1, d2] }
  | _ => none }
def WeightsOrderWrongFalsely : Prop := weightsOrderRow.holds Try.pinned (OpenSpec.ofChange weightsOrderWrong)

/-- 'annalistlaw04.WeightsSum': WHATEVER THE INPUT: true; the input reads as it did. -/
def weightsSumSpec : ChangeSpec := { name := "weightsSum", fn := fun _ => fun
  | [d] => { results := [.lit (.bool true)], args := [d] }
  | _ => none }
def weightsSumRow : OpenClaim := { program := "ytimalebcbfhgaaa", sum := "a7515b3dd0ffedc3688e13eb1c3c5baae3d4537dd1561f00c231b21b2f2fe86a", func := "annalist/annalistlaw04.WeightsSum", spec := "weightsSum", inPlace := ["math.Float64frombits", "math.Float64bits"], apart := false }
def WeightsSumSaid : Prop := weightsSumRow.holds Try.pinned (OpenSpec.ofChange weightsSumSpec)

/-- ITS FALSE NEIGHBOUR: 'it returns false'. Refute it at one input. -/
def weightsSumWrong : ChangeSpec := { name := "weightsSum", fn := fun _ => fun
  | [d] => { results := [.lit (.bool false)], args := [d] }
  | _ => none }
def WeightsSumWrongFalsely : Prop := weightsSumRow.holds Try.pinned (OpenSpec.ofChange weightsSumWrong)

/-- 'annalistlaw04.WeightsEnds': WHATEVER THE INPUT: true; the input reads as it did. -/
def weightsEndsSpec : ChangeSpec := { name := "weightsEnds", fn := fun _ => fun
  | [d1, d2] => { results := [.lit (.bool true)], args := [d1, d2] }
  | _ => none }
def weightsEndsRow : OpenClaim := { program := "ytimalebcbfhgaaa", sum := "a7515b3dd0ffedc3688e13eb1c3c5baae3d4537dd1561f00c231b21b2f2fe86a", func := "annalist/annalistlaw04.WeightsEnds", spec := "weightsEnds", inPlace := ["math.Float64frombits", "math.Float64bits"], apart := false }
def WeightsEndsSaid : Prop := weightsEndsRow.holds Try.pinned (OpenSpec.ofChange weightsEndsSpec)

/-- ITS FALSE NEIGHBOUR: 'it returns false'. Refute it at one input. -/
def weightsEndsWrong : ChangeSpec := { name := "weightsEnds", fn := fun _ => fun
  | [d1, d2] => { results := [.lit (.bool false)], args := [d1, d2] }
  | _ => none }
def WeightsEndsWrongFalsely : Prop := weightsEndsRow.holds Try.pinned (OpenSpec.ofChange weightsEndsWrong)

/-- 'annalistlaw04.WeightsBack': WHATEVER THE INPUT: true; the input reads as it did. -/
def weightsBackSpec : ChangeSpec := { name := "weightsBack", fn := fun _ => fun
  | [d] => { results := [.lit (.bool true)], args := [d] }
  | _ => none }
def weightsBackRow : OpenClaim := { program := "ytimalebcbfhgaaa", sum := "a7515b3dd0ffedc3688e13eb1c3c5baae3d4537dd1561f00c231b21b2f2fe86a", func := "annalist/annalistlaw04.WeightsBack", spec := "weightsBack", inPlace := ["math.Float64frombits", "math.Float64bits"], apart := false }
def WeightsBackSaid : Prop := weightsBackRow.holds Try.pinned (OpenSpec.ofChange weightsBackSpec)

/-- ITS FALSE NEIGHBOUR: 'it returns false'. Refute it at one input. -/
def weightsBackWrong : ChangeSpec := { name := "weightsBack", fn := fun _ => fun
  | [d] => { results := [.lit (.bool false)], args := [d] }
  | _ => none }
def WeightsBackWrongFalsely : Prop := weightsBackRow.holds Try.pinned (OpenSpec.ofChange weightsBackWrong)

/-- 'annalistlaw04.WeightsTell': WHATEVER THE INPUT: true; the input reads as it did. -/
def weightsTellSpec : ChangeSpec := { name := "weightsTell", fn := fun _ => fun
  | [d1, d2] => { results := [.lit (.bool true)], args := [d1, d2] }
  | _ => none }
def weightsTellRow : OpenClaim := { program := "ytimalebcbfhgaaa", sum := "a7515b3dd0ffedc3688e13eb1c3c5baae3d4537dd1561f00c231b21b2f2fe86a", func := "annalist/annalistlaw04.WeightsTell", spec := "weightsTell", inPlace := ["math.Float64frombits", "math.Float64bits"], apart := false }
def WeightsTellSaid : Prop := weightsTellRow.holds Try.pinned (OpenSpec.ofChange weightsTellSpec)

/-- ITS FALSE NEIGHBOUR: 'it returns false'. Refute it at one input. -/
def weightsTellWrong : ChangeSpec := { name := "weightsTell", fn := fun _ => fun
  | [d1, d2] => { results := [.lit (.bool false)], args := [d1, d2] }
  | _ => none }
def WeightsTellWrongFalsely : Prop := weightsTellRow.holds Try.pinned (OpenSpec.ofChange weightsTellWrong)

/-- 'annalistlaw28.GaugeTell': WHATEVER THE INPUT: true; the input reads as it did. -/
def gaugeTellSpec : ChangeSpec := { name := "gaugeTell", fn := fun _ => fun
  | [d] => { results := [.lit (.bool true)], args := [d] }
  | _ => none }
def gaugeTellRow : OpenClaim := { program := "ytimalebcbfhgaaa", sum := "a7515b3dd0ffedc3688e13eb1c3c5baae3d4537dd1561f00c231b21b2f2fe86a", func := "annalist/annalistlaw28.GaugeTell", spec := "gaugeTell", inPlace := ["math.Float64frombits", "math.Float64bits"], apart := false }
def GaugeTellSaid : Prop := gaugeTellRow.holds Try.pinned (OpenSpec.ofChange gaugeTellSpec)

/-- ITS FALSE NEIGHBOUR: 'it returns false'. Refute it at one input. -/
def gaugeTellWrong : ChangeSpec := { name := "gaugeTell", fn := fun _ => fun
  | [d] => { results := [.lit (.bool false)], args := [d] }
  | _ => none }
def GaugeTellWrongFalsely : Prop := gaugeTellRow.holds Try.pinned (OpenSpec.ofChange gaugeTellWrong)

/-- 'annalistlaw28.GaugeParts': WHATEVER THE INPUT: true; the input reads as it did. -/
def gaugePartsSpec : ChangeSpec := { name := "gaugeParts", fn := fun _ => fun
  | [d1, d2] => { results := [.lit (.bool true)], args := [d1, d2] }
  | _ => none }
def gaugePartsRow : OpenClaim := { program := "ytimalebcbfhgaaa", sum := "a7515b3dd0ffedc3688e13eb1c3c5baae3d4537dd1561f00c231b21b2f2fe86a", func := "annalist/annalistlaw28.GaugeParts", spec := "gaugeParts", inPlace := ["math.Float64frombits", "math.Float64bits"], apart := false }
def GaugePartsSaid : Prop := gaugePartsRow.holds Try.pinned (OpenSpec.ofChange gaugePartsSpec)

/-- ITS FALSE NEIGHBOUR: 'it returns false'. Refute it at one input. -/
def gaugePartsWrong : ChangeSpec := { name := "gaugeParts", fn := fun _ => fun
  | [d1, d2] => { results := [.lit (.bool false)], args := [d1, d2] }
  | _ => none }
def GaugePartsWrongFalsely : Prop := gaugePartsRow.holds Try.pinned (OpenSpec.ofChange gaugePartsWrong)

/-- 'annalistlaw28.GaugeOne': WHATEVER THE INPUT: true; the input reads as it did. -/
def gaugeOneSpec : ChangeSpec := { name := "gaugeOne", fn := fun _ => fun
  | [d] => { results := [.lit (.bool true)], args := [d] }
  | _ => none }
def gaugeOneRow : OpenClaim := { program := "ytimalebcbfhgaaa", sum := "a7515b3dd0ffedc3688e13eb1c3c5baae3d4537dd1561f00c231b21b2f2fe86a", func := "annalist/annalistlaw28.GaugeOne", spec := "gaugeOne", inPlace := ["math.Float64frombits", "math.Float64bits"], apart := false }
def GaugeOneSaid : Prop := gaugeOneRow.holds Try.pinned (OpenSpec.ofChange gaugeOneSpec)

/-- ITS FALSE NEIGHBOUR: 'it returns false'. Refute it at one input. -/
def gaugeOneWrong : ChangeSpec := { name := "gaugeOne", fn := fun _ => fun
  | [d] => { results := [.lit (.bool false)], args := [d] }
  | _ => none }
def GaugeOneWrongFalsely : Prop := gaugeOneRow.holds Try.pinned (OpenSpec.ofChange gaugeOneWrong)

/-- 'annalistlaw28.GaugeNone': WHATEVER THE INPUT: true; the input reads as it did. -/
def gaugeNoneSpec : ChangeSpec := { name := "gaugeNone", fn := fun _ => fun
  | [d1, d2] => { results := [.lit (.bool true)], args := [d1, d2] }
  | _ => none }
def gaugeNoneRow : OpenClaim := { program := "ytimalebcbfhgaaa", sum := "a7515b3dd0ffedc3688e13eb1c3c5baae3d4537dd1561f00c231b21b2f2fe86a", func := "annalist/annalistlaw28.GaugeNone", spec := "gaugeNone", inPlace := ["math.Float64frombits", "math.Float64bits"], apart := false }
def GaugeNoneSaid : Prop := gaugeNoneRow.holds Try.pinned (OpenSpec.ofChange gaugeNoneSpec)

/-- ITS FALSE NEIGHBOUR: 'it returns false'. Refute it at one input. -/
def gaugeNoneWrong : ChangeSpec := { name := "gaugeNone", fn := fun _ => fun
  | [d1, d2] => { results := [.lit (.bool false)], args := [d1, d2] }
  | _ => none }
def GaugeNoneWrongFalsely : Prop := gaugeNoneRow.holds Try.pinned (OpenSpec.ofChange gaugeNoneWrong)

/-- 'annalistlaw28.GaugeSame': WHATEVER THE INPUT: true; the input reads as it did. -/
def gaugeSameSpec : ChangeSpec := { name := "gaugeSame", fn := fun _ => fun
  | [d1, d2] => { results := [.lit (.bool true)], args := [d1, d2] }
  | _ => none }
def gaugeSameRow : OpenClaim := { program := "ytimalebcbfhgaaa", sum := "a7515b3dd0ffedc3688e13eb1c3c5baae3d4537dd1561f00c231b21b2f2fe86a", func := "annalist/annalistlaw28.GaugeSame", spec := "gaugeSame", inPlace := ["math.Float64frombits", "math.Float64bits"], apart := false }
def GaugeSameSaid : Prop := gaugeSameRow.holds Try.pinned (OpenSpec.ofChange gaugeSameSpec)

/-- ITS FALSE NEIGHBOUR: 'it returns false'. Refute it at one input. -/
def gaugeSameWrong : ChangeSpec := { name := "gaugeSame", fn := fun _ => fun
  | [d1, d2] => { results := [.lit (.bool false)], args := [d1, d2] }
  | _ => none }
def GaugeSameWrongFalsely : Prop := gaugeSameRow.holds Try.pinned (OpenSpec.ofChange gaugeSameWrong)

/- THE SECOND FORM. 'bulk': how many values and letters a reading holds, each counted each time it is reached (what is shared counts as often as it is met; a slice's spare places count too). A statement '..UptoSaid' is the law's where the arguments, and the package variables that the reading takes, are together of bulk at most 1048576: NARROWER than '..Said'. Prove '..Said' where nothing that the law and all that it calls make is longer than what came in: it says more and counts as full. Else prove '..UptoSaid'. A law counts once. -/
mutual
def uptoBulk {H : Type} : DataW H → Nat
  | .lit (.string bytes) => bytes.length + 1
  | .lit _ => 1
  | .nil => 1
  | .ptr d => uptoBulk d + 1
  | .slice elems spare => uptoBulkAll elems + uptoBulkAll spare + 1
  | .agg parts => uptoBulkAll parts + 1
  | .iface _ d => uptoBulk d + 1
  | .map entries => uptoBulkEntries entries + 1
  | .held _ => 1
def uptoBulkAll {H : Type} : List (DataW H) → Nat
  | [] => 0
  | d :: r => uptoBulk d + uptoBulkAll r
def uptoBulkEntries {H : Type} : List (Lit × DataW H) → Nat
  | [] => 0
  | x :: r => uptoBulkEntry x + uptoBulkEntries r
def uptoBulkEntry {H : Type} : Lit × DataW H → Nat
  | (.string bytes, d) => bytes.length + uptoBulk d + 1
  | (_, d) => uptoBulk d + 1
 end
def uptoSmall : (H : Type) → List (DataW H) → Bool := fun _ ds => decide (uptoBulkAll ds ≤ 1048576)
def OpenSpec.upto (s : _root_.Go.ChangeSpec) : _root_.Go.OpenSpec := { _root_.Go.OpenSpec.ofChange s with cond := some uptoSmall }

/-- 'annalistlaw04.WeightsList', WHERE WHAT IT READS IS OF BULK AT MOST 1048576: true; the input reads as it did. -/
def weightsListUptoRow : OpenClaim := { program := "ytimalebcbfhgaaa", sum := "a7515b3dd0ffedc3688e13eb1c3c5baae3d4537dd1561f00c231b21b2f2fe86a", func := "annalist/annalistlaw04.WeightsList", spec := "weightsList", inPlace := ["math.Float64frombits", "math.Float64bits"], apart := false, narrowed := true }
def WeightsListUptoSaid : Prop := weightsListUptoRow.holds Try.pinned (OpenSpec.upto weightsListSpec)

/-- 'annalistlaw04.WeightsOrder', WHERE WHAT IT READS IS OF BULK AT MOST 1048576: true; the input reads as it did. -/
def weightsOrderUptoRow : OpenClaim := { program := "ytimalebcbfhgaaa", sum := "a7515b3dd0ffedc3688e13eb1c3c5baae3d4537dd1561f00c231b21b2f2fe86a", func := "annalist/annalistlaw04.WeightsOrder", spec := "weightsOrder", inPlace := ["math.Float64frombits", "math.Float64bits"], apart := false, narrowed := true }
def WeightsOrderUptoSaid : Prop := weightsOrderUptoRow.holds Try.pinned (OpenSpec.upto weightsOrderSpec)

/-- 'annalistlaw04.WeightsSum', WHERE WHAT IT READS IS OF BULK AT MOST 1048576: true; the input reads as it did. -/
def weightsSumUptoRow : OpenClaim := { program := "ytimalebcbfhgaaa", sum := "a7515b3dd0ffedc3688e13eb1c3c5baae3d4537dd1561f00c231b21b2f2fe86a", func := "annalist/annalistlaw04.WeightsSum", spec := "weightsSum", inPlace := ["math.Float64frombits", "math.Float64bits"], apart := false, narrowed := true }
def WeightsSumUptoSaid : Prop := weightsSumUptoRow.holds Try.pinned (OpenSpec.upto weightsSumSpec)

/-- 'annalistlaw04.WeightsEnds', WHERE WHAT IT READS IS OF BULK AT MOST 1048576: true; the input reads as it did. -/
def weightsEndsUptoRow : OpenClaim := { program := "ytimalebcbfhgaaa", sum := "a7515b3dd0ffedc3688e13eb1c3c5baae3d4537dd1561f00c231b21b2f2fe86a", func := "annalist/annalistlaw04.WeightsEnds", spec := "weightsEnds", inPlace := ["math.Float64frombits", "math.Float64bits"], apart := false, narrowed := true }
def WeightsEndsUptoSaid : Prop := weightsEndsUptoRow.holds Try.pinned (OpenSpec.upto weightsEndsSpec)

/-- 'annalistlaw04.WeightsBack', WHERE WHAT IT READS IS OF BULK AT MOST 1048576: true; the input reads as it did. -/
def weightsBackUptoRow : OpenClaim := { program := "ytimalebcbfhgaaa", sum := "a7515b3dd0ffedc3688e13eb1c3c5baae3d4537dd1561f00c231b21b2f2fe86a", func := "annalist/annalistlaw04.WeightsBack", spec := "weightsBack", inPlace := ["math.Float64frombits", "math.Float64bits"], apart := false, narrowed := true }
def WeightsBackUptoSaid : Prop := weightsBackUptoRow.holds Try.pinned (OpenSpec.upto weightsBackSpec)

/-- 'annalistlaw04.WeightsTell', WHERE WHAT IT READS IS OF BULK AT MOST 1048576: true; the input reads as it did. -/
def weightsTellUptoRow : OpenClaim := { program := "ytimalebcbfhgaaa", sum := "a7515b3dd0ffedc3688e13eb1c3c5baae3d4537dd1561f00c231b21b2f2fe86a", func := "annalist/annalistlaw04.WeightsTell", spec := "weightsTell", inPlace := ["math.Float64frombits", "math.Float64bits"], apart := false, narrowed := true }
def WeightsTellUptoSaid : Prop := weightsTellUptoRow.holds Try.pinned (OpenSpec.upto weightsTellSpec)

/-- 'annalistlaw28.GaugeTell', WHERE WHAT IT READS IS OF BULK AT MOST 1048576: true; the input reads as it did. -/
def gaugeTellUptoRow : OpenClaim := { program := "ytimalebcbfhgaaa", sum := "a7515b3dd0ffedc3688e13eb1c3c5baae3d4537dd1561f00c231b21b2f2fe86a", func := "annalist/annalistlaw28.GaugeTell", spec := "gaugeTell", inPlace := ["math.Float64frombits", "math.Float64bits"], apart := false, narrowed := true }
def GaugeTellUptoSaid : Prop := gaugeTellUptoRow.holds Try.pinned (OpenSpec.upto gaugeTellSpec)

/-- 'annalistlaw28.GaugeParts', WHERE WHAT IT READS IS OF BULK AT MOST 1048576: true; the input reads as it did. -/
def gaugePartsUptoRow : OpenClaim := { program := "ytimalebcbfhgaaa", sum := "a7515b3dd0ffedc3688e13eb1c3c5baae3d4537dd1561f00c231b21b2f2fe86a", func := "annalist/annalistlaw28.GaugeParts", spec := "gaugeParts", inPlace := ["math.Float64frombits", "math.Float64bits"], apart := false, narrowed := true }
def GaugePartsUptoSaid : Prop := gaugePartsUptoRow.holds Try.pinned (OpenSpec.upto gaugePartsSpec)

/-- 'annalistlaw28.GaugeOne', WHERE WHAT IT READS IS OF BULK AT MOST 1048576: true; the input reads as it did. -/
def gaugeOneUptoRow : OpenClaim := { program := "ytimalebcbfhgaaa", sum := "a7515b3dd0ffedc3688e13eb1c3c5baae3d4537dd1561f00c231b21b2f2fe86a", func := "annalist/annalistlaw28.GaugeOne", spec := "gaugeOne", inPlace := ["math.Float64frombits", "math.Float64bits"], apart := false, narrowed := true }
def GaugeOneUptoSaid : Prop := gaugeOneUptoRow.holds Try.pinned (OpenSpec.upto gaugeOneSpec)

/-- 'annalistlaw28.GaugeNone', WHERE WHAT IT READS IS OF BULK AT MOST 1048576: true; the input reads as it did. -/
def gaugeNoneUptoRow : OpenClaim := { program := "ytimalebcbfhgaaa", sum := "a7515b3dd0ffedc3688e13eb1c3c5baae3d4537dd1561f00c231b21b2f2fe86a", func := "annalist/annalistlaw28.GaugeNone", spec := "gaugeNone", inPlace := ["math.Float64frombits", "math.Float64bits"], apart := false, narrowed := true }
def GaugeNoneUptoSaid : Prop := gaugeNoneUptoRow.holds Try.pinned (OpenSpec.upto gaugeNoneSpec)

/-- 'annalistlaw28.GaugeSame', WHERE WHAT IT READS IS OF BULK AT MOST 1048576: true; the input reads as it did. -/
def gaugeSameUptoRow : OpenClaim := { program := "ytimalebcbfhgaaa", sum := "a7515b3dd0ffedc3688e13eb1c3c5baae3d4537dd1561f00c231b21b2f2fe86a", func := "annalist/annalistlaw28.GaugeSame", spec := "gaugeSame", inPlace := ["math.Float64frombits", "math.Float64bits"], apart := false, narrowed := true }
def GaugeSameUptoSaid : Prop := gaugeSameUptoRow.holds Try.pinned (OpenSpec.upto gaugeSameSpec)

end Rows
end Go.Proofs.Ytimalebcbfhgaaa
