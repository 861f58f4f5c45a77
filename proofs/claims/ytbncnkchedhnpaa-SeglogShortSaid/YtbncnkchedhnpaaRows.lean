/-
  No cell of these rows narrows 'for every input' (looked for: loops, veiled, ifaces, maps, wideKeys, modest, calm, conditions, laid).
  DERIVED. THE GIVEN ROWS OF THIS SEAT. 4 by the template 'for every input the law returns true; each argument reads behind the call as it read before'; 0 by the template 'total and deterministic' (their statements: YtbncnkchedhnpaaTotals.lean).
  GIVEN WITH THE SEED: the statements are not yours to turn. If you find one false, say at which input.
  Laid BY PROGRAM, IN A SANDBOX (cutbox-rows.mjs): the forced cells as the released guide's own fill.sh prints them over the translation 79e7d02f1d0659f1… (all of the seat's roots in one cut). By AI agents, Wed Nov 11 2026. No macro, syntax, notation, axiom, sorry.
-/
import Derived.Test.YtbncnkchedhnpaaChecked
import GoSem.Claim
import GoSem.ClaimJoined
import GoSem.ClaimMapViews
import Derived.JoinedTies
import Derived.KernelRfl
namespace Go.Proofs.Ytbncnkchedhnpaa
/- THE CELL 'sum', in the pinned program and in every row, IS THE sha256 OF THE DUMP (.gsa) THAT YtbncnkchedhnpaaProg.lean LOADS. Nothing in Lean hashes anything: it is a label: what it is worth is what the hold of that sum in a sandbox is worth. -/
noncomputable def Try.pinned : Pinned := { name := "ytbncnkchedhnpaa", sum := "79e7d02f1d0659f1eaef5d001245772a307433dbf823a6fc42c1c96abbececb3", checked := Try.checked }
namespace Rows
def none {H : Type} : Left H := { results := [], args := [] }

/-- 'brokerlaw34.SeglogReads': WHATEVER THE INPUT: true; the input reads as it did. -/
def seglogReadsSpec : ChangeSpec := { name := "seglogReads", fn := fun _ => fun
  | [d1, d2, d3] => { results := [.lit (.bool true)], args := [d1, d2, d3] }
  | _ => none }
def seglogReadsRow : OpenClaim := { program := "ytbncnkchedhnpaa", sum := "79e7d02f1d0659f1eaef5d001245772a307433dbf823a6fc42c1c96abbececb3", func := "broker/brokerlaw34.SeglogReads", spec := "seglogReads", apart := false }
def SeglogReadsSaid : Prop := seglogReadsRow.holds Try.pinned (OpenSpec.ofChange seglogReadsSpec)

/-- ITS FALSE NEIGHBOUR: 'it returns false'. Refute it at one input. -/
def seglogReadsWrong : ChangeSpec := { name := "seglogReads", fn := fun _ => fun
  | [d1, d2, d3] => { results := [.lit (.bool false)], args := [d1, d2, d3] }
  | _ => none }
def SeglogReadsWrongFalsely : Prop := seglogReadsRow.holds Try.pinned (OpenSpec.ofChange seglogReadsWrong)

/-- 'brokerlaw34.SeglogShort': WHATEVER THE INPUT: true; the input reads as it did. -/
def seglogShortSpec : ChangeSpec := { name := "seglogShort", fn := fun _ => fun
  | [d1, d2] => { results := [.lit (.bool true)], args := [d1, d2] }
  | _ => none }
def seglogShortRow : OpenClaim := { program := "ytbncnkchedhnpaa", sum := "79e7d02f1d0659f1eaef5d001245772a307433dbf823a6fc42c1c96abbececb3", func := "broker/brokerlaw34.SeglogShort", spec := "seglogShort", apart := false }
def SeglogShortSaid : Prop := seglogShortRow.holds Try.pinned (OpenSpec.ofChange seglogShortSpec)

/-- ITS FALSE NEIGHBOUR: 'it returns false'. Refute it at one input. -/
def seglogShortWrong : ChangeSpec := { name := "seglogShort", fn := fun _ => fun
  | [d1, d2] => { results := [.lit (.bool false)], args := [d1, d2] }
  | _ => none }
def SeglogShortWrongFalsely : Prop := seglogShortRow.holds Try.pinned (OpenSpec.ofChange seglogShortWrong)

/-- 'brokerlaw34.SeglogPlays': WHATEVER THE INPUT: true; the input reads as it did. -/
def seglogPlaysSpec : ChangeSpec := { name := "seglogPlays", fn := fun _ => fun
  | [d1, d2] => { results := [.lit (.bool true)], args := [d1, d2] }
  | _ => none }
def seglogPlaysRow : OpenClaim := { program := "ytbncnkchedhnpaa", sum := "79e7d02f1d0659f1eaef5d001245772a307433dbf823a6fc42c1c96abbececb3", func := "broker/brokerlaw34.SeglogPlays", spec := "seglogPlays", apart := false }
def SeglogPlaysSaid : Prop := seglogPlaysRow.holds Try.pinned (OpenSpec.ofChange seglogPlaysSpec)

/-- ITS FALSE NEIGHBOUR: 'it returns false'. Refute it at one input. -/
def seglogPlaysWrong : ChangeSpec := { name := "seglogPlays", fn := fun _ => fun
  | [d1, d2] => { results := [.lit (.bool false)], args := [d1, d2] }
  | _ => none }
def SeglogPlaysWrongFalsely : Prop := seglogPlaysRow.holds Try.pinned (OpenSpec.ofChange seglogPlaysWrong)

/-- 'brokerlaw34.SeglogOpens': WHATEVER THE INPUT: true; the input reads as it did. -/
def seglogOpensSpec : ChangeSpec := { name := "seglogOpens", fn := fun _ => fun
  | [d1, d2, d3] => { results := [.lit (.bool true)], args := [d1, d2, d3] }
  | _ => none }
def seglogOpensRow : OpenClaim := { program := "ytbncnkchedhnpaa", sum := "79e7d02f1d0659f1eaef5d001245772a307433dbf823a6fc42c1c96abbececb3", func := "broker/brokerlaw34.SeglogOpens", spec := "seglogOpens", apart := false }
def SeglogOpensSaid : Prop := seglogOpensRow.holds Try.pinned (OpenSpec.ofChange seglogOpensSpec)

/-- ITS FALSE NEIGHBOUR: 'it returns false'. Refute it at one input. -/
def seglogOpensWrong : ChangeSpec := { name := "seglogOpens", fn := fun _ => fun
  | [d1, d2, d3] => { results := [.lit (.bool false)], args := [d1, d2, d3] }
  | _ => none }
def SeglogOpensWrongFalsely : Prop := seglogOpensRow.holds Try.pinned (OpenSpec.ofChange seglogOpensWrong)

/- THE SECOND FORM. 'bulk': how many values and letters a reading holds, each counted each time it is reached (what is shared counts as often as it is met; a slice's spare places count too). A statement '..UptoSaid' is the law's where the arguments, and the package variables that the reading takes, are together of bulk at most 1048576: NARROWER than '..Said'. Prove '..Said' where nothing that the law and all that it calls make is longer than what came in: it says more and counts as full. Else prove '..UptoSaid'. A law counts once. -/
mutual
def uptoBulk {H : Type} : DataW H → Nat
  | .lit (.string bytes) => bytes.length + 1
  | .lit _ => 1
  | .nil => 1
  | .ptr d => uptoBulk d + 1
  | .slice elems spare => uptoBulkAll elems + uptoBulkAll spare + 1
  | .agg parts => uptoBulkAll parts + 1
  | .iface _ d => uptoBulk d + 1
  | .map entries => uptoBulkEntries entries + 1
  | .held _ => 1
def uptoBulkAll {H : Type} : List (DataW H) → Nat
  | [] => 0
  | d :: r => uptoBulk d + uptoBulkAll r
def uptoBulkEntries {H : Type} : List (Lit × DataW H) → Nat
  | [] => 0
  | x :: r => uptoBulkEntry x + uptoBulkEntries r
def uptoBulkEntry {H : Type} : Lit × DataW H → Nat
  | (.string bytes, d) => bytes.length + uptoBulk d + 1
  | (_, d) => uptoBulk d + 1
 end
def uptoSmall : (H : Type) → List (DataW H) → Bool := fun _ ds => decide (uptoBulkAll ds ≤ 1048576)
def OpenSpec.upto (s : _root_.Go.ChangeSpec) : _root_.Go.OpenSpec := { _root_.Go.OpenSpec.ofChange s with cond := some uptoSmall }

/-- 'brokerlaw34.SeglogReads', WHERE WHAT IT READS IS OF BULK AT MOST 1048576: true; the input reads as it did. -/
def seglogReadsUptoRow : OpenClaim := { program := "ytbncnkchedhnpaa", sum := "79e7d02f1d0659f1eaef5d001245772a307433dbf823a6fc42c1c96abbececb3", func := "broker/brokerlaw34.SeglogReads", spec := "seglogReads", apart := false, narrowed := true }
def SeglogReadsUptoSaid : Prop := seglogReadsUptoRow.holds Try.pinned (OpenSpec.upto seglogReadsSpec)

/-- 'brokerlaw34.SeglogShort', WHERE WHAT IT READS IS OF BULK AT MOST 1048576: true; the input reads as it did. -/
def seglogShortUptoRow : OpenClaim := { program := "ytbncnkchedhnpaa", sum := "79e7d02f1d0659f1eaef5d001245772a307433dbf823a6fc42c1c96abbececb3", func := "broker/brokerlaw34.SeglogShort", spec := "seglogShort", apart := false, narrowed := true }
def SeglogShortUptoSaid : Prop := seglogShortUptoRow.holds Try.pinned (OpenSpec.upto seglogShortSpec)

/-- 'brokerlaw34.SeglogPlays', WHERE WHAT IT READS IS OF BULK AT MOST 1048576: true; the input reads as it did. -/
def seglogPlaysUptoRow : OpenClaim := { program := "ytbncnkchedhnpaa", sum := "79e7d02f1d0659f1eaef5d001245772a307433dbf823a6fc42c1c96abbececb3", func := "broker/brokerlaw34.SeglogPlays", spec := "seglogPlays", apart := false, narrowed := true }
def SeglogPlaysUptoSaid : Prop := seglogPlaysUptoRow.holds Try.pinned (OpenSpec.upto seglogPlaysSpec)

/-- 'brokerlaw34.SeglogOpens', WHERE WHAT IT READS IS OF BULK AT MOST 1048576: true; the input reads as it did. -/
def seglogOpensUptoRow : OpenClaim := { program := "ytbncnkchedhnpaa", sum := "79e7d02f1d0659f1eaef5d001245772a307433dbf823a6fc42c1c96abbececb3", func := "broker/brokerlaw34.SeglogOpens", spec := "seglogOpens", apart := false, narrowed := true }
def SeglogOpensUptoSaid : Prop := seglogOpensUptoRow.holds Try.pinned (OpenSpec.upto seglogOpensSpec)

end Rows
end Go.Proofs.Ytbncnkchedhnpaa
