/-
  No cell of these rows narrows 'for every input' (looked for: loops, veiled, ifaces, maps, wideKeys, modest, calm, conditions, laid).
  DERIVED. THE GIVEN ROWS OF THIS SEAT. 4 by the template 'for every input the law returns true; each argument reads behind the call as it read before'; 0 by the template 'total and deterministic' (their statements: YtfadalgikdffeaaTotals.lean).
  GIVEN WITH THE SEED: the statements are not yours to turn. If you find one false, say at which input.
  Laid BY PROGRAM, IN A SANDBOX (cutbox-rows.mjs): the forced cells as the released guide's own fill.sh prints them over the translation 22411bb37b973d73… (all of the seat's roots in one cut). By AI agents, Wed Nov 11 2026. No macro, syntax, notation, axiom, sorry.
-/
import Derived.Test.YtfadalgikdffeaaChecked
import GoSem.Claim
import GoSem.ClaimJoined
import GoSem.ClaimMapViews
import Derived.JoinedTies
import Derived.KernelRfl
namespace Go.Proofs.Ytfadalgikdffeaa
/- THE CELL 'sum', in the pinned program and in every row, IS THE sha256 OF THE DUMP (.gsa) THAT YtfadalgikdffeaaProg.lean LOADS. Nothing in Lean hashes anything: it is a label: what it is worth is what the hold of that sum in a sandbox is worth. -/
noncomputable def Try.pinned : Pinned := { name := "ytfadalgikdffeaa", sum := "22411bb37b973d730641f9c337bd9608dbae9104f17e6ae408b0d307ccadbe48", checked := Try.checked }
namespace Rows
def none {H : Type} : Left H := { results := [], args := [] }

/-- 'brokerlaw41.ReplicaChecks': WHATEVER THE INPUT: true; the input reads as it did. -/
def replicaChecksSpec : ChangeSpec := { name := "replicaChecks", fn := fun _ => fun
  | [d1, d2, d3] => { results := [.lit (.bool true)], args := [d1, d2, d3] }
  | _ => none }
def replicaChecksRow : OpenClaim := { program := "ytfadalgikdffeaa", sum := "22411bb37b973d730641f9c337bd9608dbae9104f17e6ae408b0d307ccadbe48", func := "broker/brokerlaw41.ReplicaChecks", spec := "replicaChecks", unfollowed := true, recurses := true, apart := false }
def ReplicaChecksSaid : Prop := replicaChecksRow.holds Try.pinned (OpenSpec.ofChange replicaChecksSpec)

/-- ITS FALSE NEIGHBOUR: 'it returns false'. Refute it at one input. -/
def replicaChecksWrong : ChangeSpec := { name := "replicaChecks", fn := fun _ => fun
  | [d1, d2, d3] => { results := [.lit (.bool false)], args := [d1, d2, d3] }
  | _ => none }
def ReplicaChecksWrongFalsely : Prop := replicaChecksRow.holds Try.pinned (OpenSpec.ofChange replicaChecksWrong)

/-- 'brokerlaw41.ReplicaKeeps': WHATEVER THE INPUT: true; the input reads as it did. -/
def replicaKeepsSpec : ChangeSpec := { name := "replicaKeeps", fn := fun _ => fun
  | [d1, d2] => { results := [.lit (.bool true)], args := [d1, d2] }
  | _ => none }
def replicaKeepsRow : OpenClaim := { program := "ytfadalgikdffeaa", sum := "22411bb37b973d730641f9c337bd9608dbae9104f17e6ae408b0d307ccadbe48", func := "broker/brokerlaw41.ReplicaKeeps", spec := "replicaKeeps", unfollowed := true, recurses := true, apart := false }
def ReplicaKeepsSaid : Prop := replicaKeepsRow.holds Try.pinned (OpenSpec.ofChange replicaKeepsSpec)

/-- ITS FALSE NEIGHBOUR: 'it returns false'. Refute it at one input. -/
def replicaKeepsWrong : ChangeSpec := { name := "replicaKeeps", fn := fun _ => fun
  | [d1, d2] => { results := [.lit (.bool false)], args := [d1, d2] }
  | _ => none }
def ReplicaKeepsWrongFalsely : Prop := replicaKeepsRow.holds Try.pinned (OpenSpec.ofChange replicaKeepsWrong)

/-- 'brokerlaw41.ReplicaAgrees': WHATEVER THE INPUT: true; the input reads as it did. -/
def replicaAgreesSpec : ChangeSpec := { name := "replicaAgrees", fn := fun _ => fun
  | [d1, d2] => { results := [.lit (.bool true)], args := [d1, d2] }
  | _ => none }
def replicaAgreesRow : OpenClaim := { program := "ytfadalgikdffeaa", sum := "22411bb37b973d730641f9c337bd9608dbae9104f17e6ae408b0d307ccadbe48", func := "broker/brokerlaw41.ReplicaAgrees", spec := "replicaAgrees", unfollowed := true, recurses := true, apart := false }
def ReplicaAgreesSaid : Prop := replicaAgreesRow.holds Try.pinned (OpenSpec.ofChange replicaAgreesSpec)

/-- ITS FALSE NEIGHBOUR: 'it returns false'. Refute it at one input. -/
def replicaAgreesWrong : ChangeSpec := { name := "replicaAgrees", fn := fun _ => fun
  | [d1, d2] => { results := [.lit (.bool false)], args := [d1, d2] }
  | _ => none }
def ReplicaAgreesWrongFalsely : Prop := replicaAgreesRow.holds Try.pinned (OpenSpec.ofChange replicaAgreesWrong)

/-- 'brokerlaw41.ReplicaAdvances': WHATEVER THE INPUT: true; the input reads as it did. -/
def replicaAdvancesSpec : ChangeSpec := { name := "replicaAdvances", fn := fun _ => fun
  | [d1, d2] => { results := [.lit (.bool true)], args := [d1, d2] }
  | _ => none }
def replicaAdvancesRow : OpenClaim := { program := "ytfadalgikdffeaa", sum := "22411bb37b973d730641f9c337bd9608dbae9104f17e6ae408b0d307ccadbe48", func := "broker/brokerlaw41.ReplicaAdvances", spec := "replicaAdvances", unfollowed := true, recurses := true, apart := false }
def ReplicaAdvancesSaid : Prop := replicaAdvancesRow.holds Try.pinned (OpenSpec.ofChange replicaAdvancesSpec)

/-- ITS FALSE NEIGHBOUR: 'it returns false'. Refute it at one input. -/
def replicaAdvancesWrong : ChangeSpec := { name := "replicaAdvances", fn := fun _ => fun
  | [d1, d2] => { results := [.lit (.bool false)], args := [d1, d2] }
  | _ => none }
def ReplicaAdvancesWrongFalsely : Prop := replicaAdvancesRow.holds Try.pinned (OpenSpec.ofChange replicaAdvancesWrong)

/- THE SECOND FORM. 'bulk': how many values and letters a reading holds, each counted each time it is reached (what is shared counts as often as it is met; a slice's spare places count too). A statement '..UptoSaid' is the law's where the arguments, and the package variables that the reading takes, are together of bulk at most 1048576: NARROWER than '..Said'. Prove '..Said' where nothing that the law and all that it calls make is longer than what came in: it says more and counts as full. Else prove '..UptoSaid'. A law counts once. -/
mutual
def uptoBulk {H : Type} : DataW H → Nat
  | .lit (.string bytes) => bytes.length + 1
  | .lit _ => 1
  | .nil => 1
  | .ptr d => uptoBulk d + 1
  | .slice elems spare => uptoBulkAll elems + uptoBulkAll spare + 1
  | .agg parts => uptoBulkAll parts + 1
  | .iface _ d => uptoBulk d + 1
  | .map entries => uptoBulkEntries entries + 1
  | .held _ => 1
def uptoBulkAll {H : Type} : List (DataW H) → Nat
  | [] => 0
  | d :: r => uptoBulk d + uptoBulkAll r
def uptoBulkEntries {H : Type} : List (Lit × DataW H) → Nat
  | [] => 0
  | x :: r => uptoBulkEntry x + uptoBulkEntries r
def uptoBulkEntry {H : Type} : Lit × DataW H → Nat
  | (.string bytes, d) => bytes.length + uptoBulk d + 1
  | (_, d) => uptoBulk d + 1
 end
def uptoSmall : (H : Type) → List (DataW H) → Bool := fun _ ds => decide (uptoBulkAll ds ≤ 1048576)
def OpenSpec.upto (s : _root_.Go.ChangeSpec) : _root_.Go.OpenSpec := { _root_.Go.OpenSpec.ofChange s with cond := some uptoSmall }

/-- 'brokerlaw41.ReplicaChecks', WHERE WHAT IT READS IS OF BULK AT MOST 1048576: true; the input reads as it did. -/
def replicaChecksUptoRow : OpenClaim := { program := "ytfadalgikdffeaa", sum := "22411bb37b973d730641f9c337bd9608dbae9104f17e6ae408b0d307ccadbe48", func := "broker/brokerlaw41.ReplicaChecks", spec := "replicaChecks", unfollowed := true, recurses := true, apart := false, narrowed := true }
def ReplicaChecksUptoSaid : Prop := replicaChecksUptoRow.holds Try.pinned (OpenSpec.upto replicaChecksSpec)

/-- 'brokerlaw41.ReplicaKeeps', WHERE WHAT IT READS IS OF BULK AT MOST 1048576: true; the input reads as it did. -/
def replicaKeepsUptoRow : OpenClaim := { program := "ytfadalgikdffeaa", sum := "22411bb37b973d730641f9c337bd9608dbae9104f17e6ae408b0d307ccadbe48", func := "broker/brokerlaw41.ReplicaKeeps", spec := "replicaKeeps", unfollowed := true, recurses := true, apart := false, narrowed := true }
def ReplicaKeepsUptoSaid : Prop := replicaKeepsUptoRow.holds Try.pinned (OpenSpec.upto replicaKeepsSpec)

/-- 'brokerlaw41.ReplicaAgrees', WHERE WHAT IT READS IS OF BULK AT MOST 1048576: true; the input reads as it did. -/
def replicaAgreesUptoRow : OpenClaim := { program := "ytfadalgikdffeaa", sum := "22411bb37b973d730641f9c337bd9608dbae9104f17e6ae408b0d307ccadbe48", func := "broker/brokerlaw41.ReplicaAgrees", spec := "replicaAgrees", unfollowed := true, recurses := true, apart := false, narrowed := true }
def ReplicaAgreesUptoSaid : Prop := replicaAgreesUptoRow.holds Try.pinned (OpenSpec.upto replicaAgreesSpec)

/-- 'brokerlaw41.ReplicaAdvances', WHERE WHAT IT READS IS OF BULK AT MOST 1048576: true; the input reads as it did. -/
def replicaAdvancesUptoRow : OpenClaim := { program := "ytfadalgikdffeaa", sum := "22411bb37b973d730641f9c337bd9608dbae9104f17e6ae408b0d307ccadbe48", func := "broker/brokerlaw41.ReplicaAdvances", spec := "replicaAdvances", unfollowed := true, recurses := true, apart := false, narrowed := true }
def ReplicaAdvancesUptoSaid : Prop := replicaAdvancesUptoRow.holds Try.pinned (OpenSpec.upto replicaAdvancesSpec)

end Rows
end Go.Proofs.Ytfadalgikdffeaa
