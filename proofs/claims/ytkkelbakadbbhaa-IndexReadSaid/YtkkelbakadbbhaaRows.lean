/-
  No cell of these rows narrows 'for every input' (looked for: loops, veiled, ifaces, maps, wideKeys, modest, calm, conditions, laid).
  DERIVED. THE GIVEN ROWS OF THIS SEAT. 18 by the template 'for every input the law returns true; each argument reads behind the call as it read before'; 0 by the template 'total and deterministic' (their statements: YtkkelbakadbbhaaTotals.lean).
  GIVEN WITH THE SEED: the statements are not yours to turn. If you find one false, say at which input.
  Laid BY PROGRAM, IN A SANDBOX (cutbox-rows.mjs): the forced cells as the released guide's own fill.sh prints them over the translation 6a5452b757ede322… (all of the seat's roots in one cut). By AI agents, Wed Nov 11 2026. No macro, syntax, notation, axiom, sorry.
-/
import Derived.Test.YtkkelbakadbbhaaChecked
import GoSem.Claim
import GoSem.ClaimJoined
import GoSem.ClaimMapViews
import Derived.JoinedTies
import Derived.KernelRfl
namespace Go.Proofs.Ytkkelbakadbbhaa
/- THE CELL 'sum', in the pinned program and in every row, IS THE sha256 OF THE DUMP (.gsa) THAT YtkkelbakadbbhaaProg.lean LOADS. Nothing in Lean hashes anything: it is a label: what it is worth is what the hold of that sum in a sandbox is worth. -/
noncomputable def Try.pinned : Pinned := { name := "ytkkelbakadbbhaa", sum := "6a5452b757ede322b9757fc39283e4077052a88944ab341b956ef8e7e4166683", checked := Try.checked }
namespace Rows
def none {H : Type} : Left H := { results := [], args := [] }

/-- 'brokerlaw31.RecordChecks': WHATEVER THE INPUT: true; the input reads as it did. -/
def recordChecksSpec : ChangeSpec := { name := "recordChecks", fn := fun _ => fun
  | [d] => { results := [.lit (.bool true)], args := [d] }
  | _ => none }
def recordChecksRow : OpenClaim := { program := "ytkkelbakadbbhaa", sum := "6a5452b757ede322b9757fc39283e4077052a88944ab341b956ef8e7e4166683", func := "broker/brokerlaw31.RecordChecks", spec := "recordChecks", apart := false }
def RecordChecksSaid : Prop := recordChecksRow.holds Try.pinned (OpenSpec.ofChange recordChecksSpec)

/-- ITS FALSE NEIGHBOUR: 'it returns false'. Refute it at one input. -/
def recordChecksWrong : ChangeSpec := { name := "recordChecks", fn := fun _ => fun
  | [d] => { results := [.lit (.bool false)], args := [d] }
  | _ => none }
def RecordChecksWrongFalsely : Prop := recordChecksRow.holds Try.pinned (OpenSpec.ofChange recordChecksWrong)

/-- 'brokerlaw31.RecordEncodes': WHATEVER THE INPUT: true; the input reads as it did. -/
def recordEncodesSpec : ChangeSpec := { name := "recordEncodes", fn := fun _ => fun
  | [d] => { results := [.lit (.bool true)], args := [d] }
  | _ => none }
def recordEncodesRow : OpenClaim := { program := "ytkkelbakadbbhaa", sum := "6a5452b757ede322b9757fc39283e4077052a88944ab341b956ef8e7e4166683", func := "broker/brokerlaw31.RecordEncodes", spec := "recordEncodes", apart := false }
def RecordEncodesSaid : Prop := recordEncodesRow.holds Try.pinned (OpenSpec.ofChange recordEncodesSpec)

/-- ITS FALSE NEIGHBOUR: 'it returns false'. Refute it at one input. -/
def recordEncodesWrong : ChangeSpec := { name := "recordEncodes", fn := fun _ => fun
  | [d] => { results := [.lit (.bool false)], args := [d] }
  | _ => none }
def RecordEncodesWrongFalsely : Prop := recordEncodesRow.holds Try.pinned (OpenSpec.ofChange recordEncodesWrong)

/-- 'brokerlaw31.RecordDecodes': WHATEVER THE INPUT: true; the input reads as it did. -/
def recordDecodesSpec : ChangeSpec := { name := "recordDecodes", fn := fun _ => fun
  | [d1, d2] => { results := [.lit (.bool true)], args := [d1, d2] }
  | _ => none }
def recordDecodesRow : OpenClaim := { program := "ytkkelbakadbbhaa", sum := "6a5452b757ede322b9757fc39283e4077052a88944ab341b956ef8e7e4166683", func := "broker/brokerlaw31.RecordDecodes", spec := "recordDecodes", apart := false }
def RecordDecodesSaid : Prop := recordDecodesRow.holds Try.pinned (OpenSpec.ofChange recordDecodesSpec)

/-- ITS FALSE NEIGHBOUR: 'it returns false'. Refute it at one input. -/
def recordDecodesWrong : ChangeSpec := { name := "recordDecodes", fn := fun _ => fun
  | [d1, d2] => { results := [.lit (.bool false)], args := [d1, d2] }
  | _ => none }
def RecordDecodesWrongFalsely : Prop := recordDecodesRow.holds Try.pinned (OpenSpec.ofChange recordDecodesWrong)

/-- 'brokerlaw31.RecordBack': WHATEVER THE INPUT: true; the input reads as it did. -/
def recordBackSpec : ChangeSpec := { name := "recordBack", fn := fun _ => fun
  | [d1, d2, d3] => { results := [.lit (.bool true)], args := [d1, d2, d3] }
  | _ => none }
def recordBackRow : OpenClaim := { program := "ytkkelbakadbbhaa", sum := "6a5452b757ede322b9757fc39283e4077052a88944ab341b956ef8e7e4166683", func := "broker/brokerlaw31.RecordBack", spec := "recordBack", apart := false }
def RecordBackSaid : Prop := recordBackRow.holds Try.pinned (OpenSpec.ofChange recordBackSpec)

/-- ITS FALSE NEIGHBOUR: 'it returns false'. Refute it at one input. -/
def recordBackWrong : ChangeSpec := { name := "recordBack", fn := fun _ => fun
  | [d1, d2, d3] => { results := [.lit (.bool false)], args := [d1, d2, d3] }
  | _ => none }
def RecordBackWrongFalsely : Prop := recordBackRow.holds Try.pinned (OpenSpec.ofChange recordBackWrong)

/-- 'brokerlaw31.RecordOnly': WHATEVER THE INPUT: true; the input reads as it did. -/
def recordOnlySpec : ChangeSpec := { name := "recordOnly", fn := fun _ => fun
  | [d] => { results := [.lit (.bool true)], args := [d] }
  | _ => none }
def recordOnlyRow : OpenClaim := { program := "ytkkelbakadbbhaa", sum := "6a5452b757ede322b9757fc39283e4077052a88944ab341b956ef8e7e4166683", func := "broker/brokerlaw31.RecordOnly", spec := "recordOnly", apart := false }
def RecordOnlySaid : Prop := recordOnlyRow.holds Try.pinned (OpenSpec.ofChange recordOnlySpec)

/-- ITS FALSE NEIGHBOUR: 'it returns false'. Refute it at one input. -/
def recordOnlyWrong : ChangeSpec := { name := "recordOnly", fn := fun _ => fun
  | [d] => { results := [.lit (.bool false)], args := [d] }
  | _ => none }
def RecordOnlyWrongFalsely : Prop := recordOnlyRow.holds Try.pinned (OpenSpec.ofChange recordOnlyWrong)

/-- 'brokerlaw31.RecordTorn': WHATEVER THE INPUT: true; the input reads as it did. -/
def recordTornSpec : ChangeSpec := { name := "recordTorn", fn := fun _ => fun
  | [d1, d2] => { results := [.lit (.bool true)], args := [d1, d2] }
  | _ => none }
def recordTornRow : OpenClaim := { program := "ytkkelbakadbbhaa", sum := "6a5452b757ede322b9757fc39283e4077052a88944ab341b956ef8e7e4166683", func := "broker/brokerlaw31.RecordTorn", spec := "recordTorn", apart := false }
def RecordTornSaid : Prop := recordTornRow.holds Try.pinned (OpenSpec.ofChange recordTornSpec)

/-- ITS FALSE NEIGHBOUR: 'it returns false'. Refute it at one input. -/
def recordTornWrong : ChangeSpec := { name := "recordTorn", fn := fun _ => fun
  | [d1, d2] => { results := [.lit (.bool false)], args := [d1, d2] }
  | _ => none }
def RecordTornWrongFalsely : Prop := recordTornRow.holds Try.pinned (OpenSpec.ofChange recordTornWrong)

/-- 'brokerlaw33.IndexBuilds': WHATEVER THE INPUT: true; the input reads as it did. -/
def indexBuildsSpec : ChangeSpec := { name := "indexBuilds", fn := fun _ => fun
  | [d1, d2, d3] => { results := [.lit (.bool true)], args := [d1, d2, d3] }
  | _ => none }
def indexBuildsRow : OpenClaim := { program := "ytkkelbakadbbhaa", sum := "6a5452b757ede322b9757fc39283e4077052a88944ab341b956ef8e7e4166683", func := "broker/brokerlaw33.IndexBuilds", spec := "indexBuilds", apart := false }
def IndexBuildsSaid : Prop := indexBuildsRow.holds Try.pinned (OpenSpec.ofChange indexBuildsSpec)

/-- ITS FALSE NEIGHBOUR: 'it returns false'. Refute it at one input. -/
def indexBuildsWrong : ChangeSpec := { name := "indexBuilds", fn := fun _ => fun
  | [d1, d2, d3] => { results := [.lit (.bool false)], args := [d1, d2, d3] }
  | _ => none }
def IndexBuildsWrongFalsely : Prop := indexBuildsRow.holds Try.pinned (OpenSpec.ofChange indexBuildsWrong)

/-- 'brokerlaw33.IndexFinds': WHATEVER THE INPUT: true; the input reads as it did. -/
def indexFindsSpec : ChangeSpec := { name := "indexFinds", fn := fun _ => fun
  | [d1, d2] => { results := [.lit (.bool true)], args := [d1, d2] }
  | _ => none }
def indexFindsRow : OpenClaim := { program := "ytkkelbakadbbhaa", sum := "6a5452b757ede322b9757fc39283e4077052a88944ab341b956ef8e7e4166683", func := "broker/brokerlaw33.IndexFinds", spec := "indexFinds", apart := false }
def IndexFindsSaid : Prop := indexFindsRow.holds Try.pinned (OpenSpec.ofChange indexFindsSpec)

/-- ITS FALSE NEIGHBOUR: 'it returns false'. Refute it at one input. -/
def indexFindsWrong : ChangeSpec := { name := "indexFinds", fn := fun _ => fun
  | [d1, d2] => { results := [.lit (.bool false)], args := [d1, d2] }
  | _ => none }
def IndexFindsWrongFalsely : Prop := indexFindsRow.holds Try.pinned (OpenSpec.ofChange indexFindsWrong)

/-- 'brokerlaw33.IndexReads': WHATEVER THE INPUT: true; the input reads as it did. -/
def indexReadsSpec : ChangeSpec := { name := "indexReads", fn := fun _ => fun
  | [d1, d2, d3] => { results := [.lit (.bool true)], args := [d1, d2, d3] }
  | _ => none }
def indexReadsRow : OpenClaim := { program := "ytkkelbakadbbhaa", sum := "6a5452b757ede322b9757fc39283e4077052a88944ab341b956ef8e7e4166683", func := "broker/brokerlaw33.IndexReads", spec := "indexReads", apart := false }
def IndexReadsSaid : Prop := indexReadsRow.holds Try.pinned (OpenSpec.ofChange indexReadsSpec)

/-- ITS FALSE NEIGHBOUR: 'it returns false'. Refute it at one input. -/
def indexReadsWrong : ChangeSpec := { name := "indexReads", fn := fun _ => fun
  | [d1, d2, d3] => { results := [.lit (.bool false)], args := [d1, d2, d3] }
  | _ => none }
def IndexReadsWrongFalsely : Prop := indexReadsRow.holds Try.pinned (OpenSpec.ofChange indexReadsWrong)

/-- 'brokerlaw33.IndexBuilt': WHATEVER THE INPUT: true; the input reads as it did. -/
def indexBuiltSpec : ChangeSpec := { name := "indexBuilt", fn := fun _ => fun
  | [d1, d2, d3] => { results := [.lit (.bool true)], args := [d1, d2, d3] }
  | _ => none }
def indexBuiltRow : OpenClaim := { program := "ytkkelbakadbbhaa", sum := "6a5452b757ede322b9757fc39283e4077052a88944ab341b956ef8e7e4166683", func := "broker/brokerlaw33.IndexBuilt", spec := "indexBuilt", apart := false }
def IndexBuiltSaid : Prop := indexBuiltRow.holds Try.pinned (OpenSpec.ofChange indexBuiltSpec)

/-- ITS FALSE NEIGHBOUR: 'it returns false'. Refute it at one input. -/
def indexBuiltWrong : ChangeSpec := { name := "indexBuilt", fn := fun _ => fun
  | [d1, d2, d3] => { results := [.lit (.bool false)], args := [d1, d2, d3] }
  | _ => none }
def IndexBuiltWrongFalsely : Prop := indexBuiltRow.holds Try.pinned (OpenSpec.ofChange indexBuiltWrong)

/-- 'brokerlaw33.IndexRead': WHATEVER THE INPUT: true; the input reads as it did. -/
def indexReadSpec : ChangeSpec := { name := "indexRead", fn := fun _ => fun
  | [d1, d2, d3] => { results := [.lit (.bool true)], args := [d1, d2, d3] }
  | _ => none }
def indexReadRow : OpenClaim := { program := "ytkkelbakadbbhaa", sum := "6a5452b757ede322b9757fc39283e4077052a88944ab341b956ef8e7e4166683", func := "broker/brokerlaw33.IndexRead", spec := "indexRead", apart := false }
def IndexReadSaid : Prop := indexReadRow.holds Try.pinned (OpenSpec.ofChange indexReadSpec)

/-- ITS FALSE NEIGHBOUR: 'it returns false'. Refute it at one input. -/
def indexReadWrong : ChangeSpec := { name := "indexRead", fn := fun _ => fun
  | [d1, d2, d3] => { results := [.lit (.bool false)], args := [d1, d2, d3] }
  | _ => none }
def IndexReadWrongFalsely : Prop := indexReadRow.holds Try.pinned (OpenSpec.ofChange indexReadWrong)

/-- 'brokerlaw32.SegmentChecks': WHATEVER THE INPUT: true; the input reads as it did. -/
def segmentChecksSpec : ChangeSpec := { name := "segmentChecks", fn := fun _ => fun
  | [d] => { results := [.lit (.bool true)], args := [d] }
  | _ => none }
def segmentChecksRow : OpenClaim := { program := "ytkkelbakadbbhaa", sum := "6a5452b757ede322b9757fc39283e4077052a88944ab341b956ef8e7e4166683", func := "broker/brokerlaw32.SegmentChecks", spec := "segmentChecks", apart := false }
def SegmentChecksSaid : Prop := segmentChecksRow.holds Try.pinned (OpenSpec.ofChange segmentChecksSpec)

/-- ITS FALSE NEIGHBOUR: 'it returns false'. Refute it at one input. -/
def segmentChecksWrong : ChangeSpec := { name := "segmentChecks", fn := fun _ => fun
  | [d] => { results := [.lit (.bool false)], args := [d] }
  | _ => none }
def SegmentChecksWrongFalsely : Prop := segmentChecksRow.holds Try.pinned (OpenSpec.ofChange segmentChecksWrong)

/-- 'brokerlaw32.SegmentAppends': WHATEVER THE INPUT: true; the input reads as it did. -/
def segmentAppendsSpec : ChangeSpec := { name := "segmentAppends", fn := fun _ => fun
  | [d1, d2] => { results := [.lit (.bool true)], args := [d1, d2] }
  | _ => none }
def segmentAppendsRow : OpenClaim := { program := "ytkkelbakadbbhaa", sum := "6a5452b757ede322b9757fc39283e4077052a88944ab341b956ef8e7e4166683", func := "broker/brokerlaw32.SegmentAppends", spec := "segmentAppends", apart := false }
def SegmentAppendsSaid : Prop := segmentAppendsRow.holds Try.pinned (OpenSpec.ofChange segmentAppendsSpec)

/-- ITS FALSE NEIGHBOUR: 'it returns false'. Refute it at one input. -/
def segmentAppendsWrong : ChangeSpec := { name := "segmentAppends", fn := fun _ => fun
  | [d1, d2] => { results := [.lit (.bool false)], args := [d1, d2] }
  | _ => none }
def SegmentAppendsWrongFalsely : Prop := segmentAppendsRow.holds Try.pinned (OpenSpec.ofChange segmentAppendsWrong)

/-- 'brokerlaw32.SegmentReads': WHATEVER THE INPUT: true; the input reads as it did. -/
def segmentReadsSpec : ChangeSpec := { name := "segmentReads", fn := fun _ => fun
  | [d1, d2] => { results := [.lit (.bool true)], args := [d1, d2] }
  | _ => none }
def segmentReadsRow : OpenClaim := { program := "ytkkelbakadbbhaa", sum := "6a5452b757ede322b9757fc39283e4077052a88944ab341b956ef8e7e4166683", func := "broker/brokerlaw32.SegmentReads", spec := "segmentReads", apart := false }
def SegmentReadsSaid : Prop := segmentReadsRow.holds Try.pinned (OpenSpec.ofChange segmentReadsSpec)

/-- ITS FALSE NEIGHBOUR: 'it returns false'. Refute it at one input. -/
def segmentReadsWrong : ChangeSpec := { name := "segmentReads", fn := fun _ => fun
  | [d1, d2] => { results := [.lit (.bool false)], args := [d1, d2] }
  | _ => none }
def SegmentReadsWrongFalsely : Prop := segmentReadsRow.holds Try.pinned (OpenSpec.ofChange segmentReadsWrong)

/-- 'brokerlaw32.SegmentRecovers': WHATEVER THE INPUT: true; the input reads as it did. -/
def segmentRecoversSpec : ChangeSpec := { name := "segmentRecovers", fn := fun _ => fun
  | [d1, d2] => { results := [.lit (.bool true)], args := [d1, d2] }
  | _ => none }
def segmentRecoversRow : OpenClaim := { program := "ytkkelbakadbbhaa", sum := "6a5452b757ede322b9757fc39283e4077052a88944ab341b956ef8e7e4166683", func := "broker/brokerlaw32.SegmentRecovers", spec := "segmentRecovers", apart := false }
def SegmentRecoversSaid : Prop := segmentRecoversRow.holds Try.pinned (OpenSpec.ofChange segmentRecoversSpec)

/-- ITS FALSE NEIGHBOUR: 'it returns false'. Refute it at one input. -/
def segmentRecoversWrong : ChangeSpec := { name := "segmentRecovers", fn := fun _ => fun
  | [d1, d2] => { results := [.lit (.bool false)], args := [d1, d2] }
  | _ => none }
def SegmentRecoversWrongFalsely : Prop := segmentRecoversRow.holds Try.pinned (OpenSpec.ofChange segmentRecoversWrong)

/-- 'brokerlaw32.SegmentBack': WHATEVER THE INPUT: true; the input reads as it did. -/
def segmentBackSpec : ChangeSpec := { name := "segmentBack", fn := fun _ => fun
  | [d1, d2] => { results := [.lit (.bool true)], args := [d1, d2] }
  | _ => none }
def segmentBackRow : OpenClaim := { program := "ytkkelbakadbbhaa", sum := "6a5452b757ede322b9757fc39283e4077052a88944ab341b956ef8e7e4166683", func := "broker/brokerlaw32.SegmentBack", spec := "segmentBack", apart := false }
def SegmentBackSaid : Prop := segmentBackRow.holds Try.pinned (OpenSpec.ofChange segmentBackSpec)

/-- ITS FALSE NEIGHBOUR: 'it returns false'. Refute it at one input. -/
def segmentBackWrong : ChangeSpec := { name := "segmentBack", fn := fun _ => fun
  | [d1, d2] => { results := [.lit (.bool false)], args := [d1, d2] }
  | _ => none }
def SegmentBackWrongFalsely : Prop := segmentBackRow.holds Try.pinned (OpenSpec.ofChange segmentBackWrong)

/-- 'brokerlaw32.SegmentTorn': WHATEVER THE INPUT: true; the input reads as it did. -/
def segmentTornSpec : ChangeSpec := { name := "segmentTorn", fn := fun _ => fun
  | [d1, d2, d3] => { results := [.lit (.bool true)], args := [d1, d2, d3] }
  | _ => none }
def segmentTornRow : OpenClaim := { program := "ytkkelbakadbbhaa", sum := "6a5452b757ede322b9757fc39283e4077052a88944ab341b956ef8e7e4166683", func := "broker/brokerlaw32.SegmentTorn", spec := "segmentTorn", apart := false }
def SegmentTornSaid : Prop := segmentTornRow.holds Try.pinned (OpenSpec.ofChange segmentTornSpec)

/-- ITS FALSE NEIGHBOUR: 'it returns false'. Refute it at one input. -/
def segmentTornWrong : ChangeSpec := { name := "segmentTorn", fn := fun _ => fun
  | [d1, d2, d3] => { results := [.lit (.bool false)], args := [d1, d2, d3] }
  | _ => none }
def SegmentTornWrongFalsely : Prop := segmentTornRow.holds Try.pinned (OpenSpec.ofChange segmentTornWrong)

/-- 'brokerlaw32.SegmentFull': WHATEVER THE INPUT: true; the input reads as it did. -/
def segmentFullSpec : ChangeSpec := { name := "segmentFull", fn := fun _ => fun
  | [d1, d2] => { results := [.lit (.bool true)], args := [d1, d2] }
  | _ => none }
def segmentFullRow : OpenClaim := { program := "ytkkelbakadbbhaa", sum := "6a5452b757ede322b9757fc39283e4077052a88944ab341b956ef8e7e4166683", func := "broker/brokerlaw32.SegmentFull", spec := "segmentFull", apart := false }
def SegmentFullSaid : Prop := segmentFullRow.holds Try.pinned (OpenSpec.ofChange segmentFullSpec)

/-- ITS FALSE NEIGHBOUR: 'it returns false'. Refute it at one input. -/
def segmentFullWrong : ChangeSpec := { name := "segmentFull", fn := fun _ => fun
  | [d1, d2] => { results := [.lit (.bool false)], args := [d1, d2] }
  | _ => none }
def SegmentFullWrongFalsely : Prop := segmentFullRow.holds Try.pinned (OpenSpec.ofChange segmentFullWrong)

/- THE SECOND FORM. 'bulk': how many values and letters a reading holds, each counted each time it is reached (what is shared counts as often as it is met; a slice's spare places count too). A statement '..UptoSaid' is the law's where the arguments, and the package variables that the reading takes, are together of bulk at most 1048576: NARROWER than '..Said'. Prove '..Said' where nothing that the law and all that it calls make is longer than what came in: it says more and counts as full. Else prove '..UptoSaid'. A law counts once. -/
mutual
def uptoBulk {H : Type} : DataW H → Nat
  | .lit (.string bytes) => bytes.length + 1
  | .lit _ => 1
  | .nil => 1
  | .ptr d => uptoBulk d + 1
  | .slice elems spare => uptoBulkAll elems + uptoBulkAll spare + 1
  | .agg parts => uptoBulkAll parts + 1
  | .iface _ d => uptoBulk d + 1
  | .map entries => uptoBulkEntries entries + 1
  | .held _ => 1
def uptoBulkAll {H : Type} : List (DataW H) → Nat
  | [] => 0
  | d :: r => uptoBulk d + uptoBulkAll r
def uptoBulkEntries {H : Type} : List (Lit × DataW H) → Nat
  | [] => 0
  | x :: r => uptoBulkEntry x + uptoBulkEntries r
def uptoBulkEntry {H : Type} : Lit × DataW H → Nat
  | (.string bytes, d) => bytes.length + uptoBulk d + 1
  | (_, d) => uptoBulk d + 1
 end
def uptoSmall : (H : Type) → List (DataW H) → Bool := fun _ ds => decide (uptoBulkAll ds ≤ 1048576)
def OpenSpec.upto (s : _root_.Go.ChangeSpec) : _root_.Go.OpenSpec := { _root_.Go.OpenSpec.ofChange s with cond := some uptoSmall }

/-- 'brokerlaw31.RecordChecks', WHERE WHAT IT READS IS OF BULK AT MOST 1048576: true; the input reads as it did. -/
def recordChecksUptoRow : OpenClaim := { program := "ytkkelbakadbbhaa", sum := "6a5452b757ede322b9757fc39283e4077052a88944ab341b956ef8e7e4166683", func := "broker/brokerlaw31.RecordChecks", spec := "recordChecks", apart := false, narrowed := true }
def RecordChecksUptoSaid : Prop := recordChecksUptoRow.holds Try.pinned (OpenSpec.upto recordChecksSpec)

/-- 'brokerlaw31.RecordEncodes', WHERE WHAT IT READS IS OF BULK AT MOST 1048576: true; the input reads as it did. -/
def recordEncodesUptoRow : OpenClaim := { program := "ytkkelbakadbbhaa", sum := "6a5452b757ede322b9757fc39283e4077052a88944ab341b956ef8e7e4166683", func := "broker/brokerlaw31.RecordEncodes", spec := "recordEncodes", apart := false, narrowed := true }
def RecordEncodesUptoSaid : Prop := recordEncodesUptoRow.holds Try.pinned (OpenSpec.upto recordEncodesSpec)

/-- 'brokerlaw31.RecordDecodes', WHERE WHAT IT READS IS OF BULK AT MOST 1048576: true; the input reads as it did. -/
def recordDecodesUptoRow : OpenClaim := { program := "ytkkelbakadbbhaa", sum := "6a5452b757ede322b9757fc39283e4077052a88944ab341b956ef8e7e4166683", func := "broker/brokerlaw31.RecordDecodes", spec := "recordDecodes", apart := false, narrowed := true }
def RecordDecodesUptoSaid : Prop := recordDecodesUptoRow.holds Try.pinned (OpenSpec.upto recordDecodesSpec)

/-- 'brokerlaw31.RecordBack', WHERE WHAT IT READS IS OF BULK AT MOST 1048576: true; the input reads as it did. -/
def recordBackUptoRow : OpenClaim := { program := "ytkkelbakadbbhaa", sum := "6a5452b757ede322b9757fc39283e4077052a88944ab341b956ef8e7e4166683", func := "broker/brokerlaw31.RecordBack", spec := "recordBack", apart := false, narrowed := true }
def RecordBackUptoSaid : Prop := recordBackUptoRow.holds Try.pinned (OpenSpec.upto recordBackSpec)

/-- 'brokerlaw31.RecordOnly', WHERE WHAT IT READS IS OF BULK AT MOST 1048576: true; the input reads as it did. -/
def recordOnlyUptoRow : OpenClaim := { program := "ytkkelbakadbbhaa", sum := "6a5452b757ede322b9757fc39283e4077052a88944ab341b956ef8e7e4166683", func := "broker/brokerlaw31.RecordOnly", spec := "recordOnly", apart := false, narrowed := true }
def RecordOnlyUptoSaid : Prop := recordOnlyUptoRow.holds Try.pinned (OpenSpec.upto recordOnlySpec)

/-- 'brokerlaw31.RecordTorn', WHERE WHAT IT READS IS OF BULK AT MOST 1048576: true; the input reads as it did. -/
def recordTornUptoRow : OpenClaim := { program := "ytkkelbakadbbhaa", sum := "6a5452b757ede322b9757fc39283e4077052a88944ab341b956ef8e7e4166683", func := "broker/brokerlaw31.RecordTorn", spec := "recordTorn", apart := false, narrowed := true }
def RecordTornUptoSaid : Prop := recordTornUptoRow.holds Try.pinned (OpenSpec.upto recordTornSpec)

/-- 'brokerlaw33.IndexBuilds', WHERE WHAT IT READS IS OF BULK AT MOST 1048576: true; the input reads as it did. -/
def indexBuildsUptoRow : OpenClaim := { program := "ytkkelbakadbbhaa", sum := "6a5452b757ede322b9757fc39283e4077052a88944ab341b956ef8e7e4166683", func := "broker/brokerlaw33.IndexBuilds", spec := "indexBuilds", apart := false, narrowed := true }
def IndexBuildsUptoSaid : Prop := indexBuildsUptoRow.holds Try.pinned (OpenSpec.upto indexBuildsSpec)

/-- 'brokerlaw33.IndexFinds', WHERE WHAT IT READS IS OF BULK AT MOST 1048576: true; the input reads as it did. -/
def indexFindsUptoRow : OpenClaim := { program := "ytkkelbakadbbhaa", sum := "6a5452b757ede322b9757fc39283e4077052a88944ab341b956ef8e7e4166683", func := "broker/brokerlaw33.IndexFinds", spec := "indexFinds", apart := false, narrowed := true }
def IndexFindsUptoSaid : Prop := indexFindsUptoRow.holds Try.pinned (OpenSpec.upto indexFindsSpec)

/-- 'brokerlaw33.IndexReads', WHERE WHAT IT READS IS OF BULK AT MOST 1048576: true; the input reads as it did. -/
def indexReadsUptoRow : OpenClaim := { program := "ytkkelbakadbbhaa", sum := "6a5452b757ede322b9757fc39283e4077052a88944ab341b956ef8e7e4166683", func := "broker/brokerlaw33.IndexReads", spec := "indexReads", apart := false, narrowed := true }
def IndexReadsUptoSaid : Prop := indexReadsUptoRow.holds Try.pinned (OpenSpec.upto indexReadsSpec)

/-- 'brokerlaw33.IndexBuilt', WHERE WHAT IT READS IS OF BULK AT MOST 1048576: true; the input reads as it did. -/
def indexBuiltUptoRow : OpenClaim := { program := "ytkkelbakadbbhaa", sum := "6a5452b757ede322b9757fc39283e4077052a88944ab341b956ef8e7e4166683", func := "broker/brokerlaw33.IndexBuilt", spec := "indexBuilt", apart := false, narrowed := true }
def IndexBuiltUptoSaid : Prop := indexBuiltUptoRow.holds Try.pinned (OpenSpec.upto indexBuiltSpec)

/-- 'brokerlaw33.IndexRead', WHERE WHAT IT READS IS OF BULK AT MOST 1048576: true; the input reads as it did. -/
def indexReadUptoRow : OpenClaim := { program := "ytkkelbakadbbhaa", sum := "6a5452b757ede322b9757fc39283e4077052a88944ab341b956ef8e7e4166683", func := "broker/brokerlaw33.IndexRead", spec := "indexRead", apart := false, narrowed := true }
def IndexReadUptoSaid : Prop := indexReadUptoRow.holds Try.pinned (OpenSpec.upto indexReadSpec)

/-- 'brokerlaw32.SegmentChecks', WHERE WHAT IT READS IS OF BULK AT MOST 1048576: true; the input reads as it did. -/
def segmentChecksUptoRow : OpenClaim := { program := "ytkkelbakadbbhaa", sum := "6a5452b757ede322b9757fc39283e4077052a88944ab341b956ef8e7e4166683", func := "broker/brokerlaw32.SegmentChecks", spec := "segmentChecks", apart := false, narrowed := true }
def SegmentChecksUptoSaid : Prop := segmentChecksUptoRow.holds Try.pinned (OpenSpec.upto segmentChecksSpec)

/-- 'brokerlaw32.SegmentAppends', WHERE WHAT IT READS IS OF BULK AT MOST 1048576: true; the input reads as it did. -/
def segmentAppendsUptoRow : OpenClaim := { program := "ytkkelbakadbbhaa", sum := "6a5452b757ede322b9757fc39283e4077052a88944ab341b956ef8e7e4166683", func := "broker/brokerlaw32.SegmentAppends", spec := "segmentAppends", apart := false, narrowed := true }
def SegmentAppendsUptoSaid : Prop := segmentAppendsUptoRow.holds Try.pinned (OpenSpec.upto segmentAppendsSpec)

/-- 'brokerlaw32.SegmentReads', WHERE WHAT IT READS IS OF BULK AT MOST 1048576: true; the input reads as it did. -/
def segmentReadsUptoRow : OpenClaim := { program := "ytkkelbakadbbhaa", sum := "6a5452b757ede322b9757fc39283e4077052a88944ab341b956ef8e7e4166683", func := "broker/brokerlaw32.SegmentReads", spec := "segmentReads", apart := false, narrowed := true }
def SegmentReadsUptoSaid : Prop := segmentReadsUptoRow.holds Try.pinned (OpenSpec.upto segmentReadsSpec)

/-- 'brokerlaw32.SegmentRecovers', WHERE WHAT IT READS IS OF BULK AT MOST 1048576: true; the input reads as it did. -/
def segmentRecoversUptoRow : OpenClaim := { program := "ytkkelbakadbbhaa", sum := "6a5452b757ede322b9757fc39283e4077052a88944ab341b956ef8e7e4166683", func := "broker/brokerlaw32.SegmentRecovers", spec := "segmentRecovers", apart := false, narrowed := true }
def SegmentRecoversUptoSaid : Prop := segmentRecoversUptoRow.holds Try.pinned (OpenSpec.upto segmentRecoversSpec)

/-- 'brokerlaw32.SegmentBack', WHERE WHAT IT READS IS OF BULK AT MOST 1048576: true; the input reads as it did. -/
def segmentBackUptoRow : OpenClaim := { program := "ytkkelbakadbbhaa", sum := "6a5452b757ede322b9757fc39283e4077052a88944ab341b956ef8e7e4166683", func := "broker/brokerlaw32.SegmentBack", spec := "segmentBack", apart := false, narrowed := true }
def SegmentBackUptoSaid : Prop := segmentBackUptoRow.holds Try.pinned (OpenSpec.upto segmentBackSpec)

/-- 'brokerlaw32.SegmentTorn', WHERE WHAT IT READS IS OF BULK AT MOST 1048576: true; the input reads as it did. -/
def segmentTornUptoRow : OpenClaim := { program := "ytkkelbakadbbhaa", sum := "6a5452b757ede322b9757fc39283e4077052a88944ab341b956ef8e7e4166683", func := "broker/brokerlaw32.SegmentTorn", spec := "segmentTorn", apart := false, narrowed := true }
def SegmentTornUptoSaid : Prop := segmentTornUptoRow.holds Try.pinned (OpenSpec.upto segmentTornSpec)

/-- 'brokerlaw32.SegmentFull', WHERE WHAT IT READS IS OF BULK AT MOST 1048576: true; the input reads as it did. -/
def segmentFullUptoRow : OpenClaim := { program := "ytkkelbakadbbhaa", sum := "6a5452b757ede322b9757fc39283e4077052a88944ab341b956ef8e7e4166683", func := "broker/brokerlaw32.SegmentFull", spec := "segmentFull", apart := false, narrowed := true }
def SegmentFullUptoSaid : Prop := segmentFullUptoRow.holds Try.pinned (OpenSpec.upto segmentFullSpec)

end Rows
end Go.Proofs.Ytkkelbakadbbhaa
