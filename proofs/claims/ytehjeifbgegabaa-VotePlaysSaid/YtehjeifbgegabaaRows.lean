/-
  No cell of these rows narrows 'for every input' (looked for: loops, veiled, ifaces, maps, wideKeys, modest, calm, conditions, laid).
  DERIVED. THE GIVEN ROWS OF THIS SEAT. 4 by the template 'for every input the law returns true; each argument reads behind the call as it read before'; 0 by the template 'total and deterministic' (their statements: YtehjeifbgegabaaTotals.lean).
  GIVEN WITH THE SEED: the statements are not yours to turn. If you find one false, say at which input.
  Laid BY PROGRAM, IN A SANDBOX (cutbox-rows.mjs): the forced cells as the released guide's own fill.sh prints them over the translation 53b71b21401966a5… (all of the seat's roots in one cut). By AI agents, Wed Nov 11 2026. No macro, syntax, notation, axiom, sorry.
-/
import Derived.Test.YtehjeifbgegabaaChecked
import GoSem.Claim
import GoSem.ClaimJoined
import GoSem.ClaimMapViews
import Derived.JoinedTies
import Derived.KernelRfl
namespace Go.Proofs.Ytehjeifbgegabaa
/- THE CELL 'sum', in the pinned program and in every row, IS THE sha256 OF THE DUMP (.gsa) THAT YtehjeifbgegabaaProg.lean LOADS. Nothing in Lean hashes anything: it is a label: what it is worth is what the hold of that sum in a sandbox is worth. -/
noncomputable def Try.pinned : Pinned := { name := "ytehjeifbgegabaa", sum := "53b71b21401966a5032a39e2f5622530d8158f012db1521a3dfad6bd5ca771e5", checked := Try.checked }
namespace Rows
def none {H : Type} : Left H := { results := [], args := [] }

/-- 'brokerlaw40.VoteNews': WHATEVER THE INPUT: true; the input reads as it did. -/
def voteNewsSpec : ChangeSpec := { name := "voteNews", fn := fun _ => fun
  | [d1, d2, d3] => { results := [.lit (.bool true)], args := [d1, d2, d3] }
  | _ => none }
def voteNewsRow : OpenClaim := { program := "ytehjeifbgegabaa", sum := "53b71b21401966a5032a39e2f5622530d8158f012db1521a3dfad6bd5ca771e5", func := "broker/brokerlaw40.VoteNews", spec := "voteNews", apart := false }
def VoteNewsSaid : Prop := voteNewsRow.holds Try.pinned (OpenSpec.ofChange voteNewsSpec)

/-- ITS FALSE NEIGHBOUR: 'it returns false'. Refute it at one input. -/
def voteNewsWrong : ChangeSpec := { name := "voteNews", fn := fun _ => fun
  | [d1, d2, d3] => { results := [.lit (.bool false)], args := [d1, d2, d3] }
  | _ => none }
def VoteNewsWrongFalsely : Prop := voteNewsRow.holds Try.pinned (OpenSpec.ofChange voteNewsWrong)

/-- 'brokerlaw40.VoteKeeps': WHATEVER THE INPUT: true; the input reads as it did. -/
def voteKeepsSpec : ChangeSpec := { name := "voteKeeps", fn := fun _ => fun
  | [d1, d2] => { results := [.lit (.bool true)], args := [d1, d2] }
  | _ => none }
def voteKeepsRow : OpenClaim := { program := "ytehjeifbgegabaa", sum := "53b71b21401966a5032a39e2f5622530d8158f012db1521a3dfad6bd5ca771e5", func := "broker/brokerlaw40.VoteKeeps", spec := "voteKeeps", apart := false }
def VoteKeepsSaid : Prop := voteKeepsRow.holds Try.pinned (OpenSpec.ofChange voteKeepsSpec)

/-- ITS FALSE NEIGHBOUR: 'it returns false'. Refute it at one input. -/
def voteKeepsWrong : ChangeSpec := { name := "voteKeeps", fn := fun _ => fun
  | [d1, d2] => { results := [.lit (.bool false)], args := [d1, d2] }
  | _ => none }
def VoteKeepsWrongFalsely : Prop := voteKeepsRow.holds Try.pinned (OpenSpec.ofChange voteKeepsWrong)

/-- 'brokerlaw40.VoteOne': WHATEVER THE INPUT: true; the input reads as it did. -/
def voteOneSpec : ChangeSpec := { name := "voteOne", fn := fun _ => fun
  | [d1, d2, d3] => { results := [.lit (.bool true)], args := [d1, d2, d3] }
  | _ => none }
def voteOneRow : OpenClaim := { program := "ytehjeifbgegabaa", sum := "53b71b21401966a5032a39e2f5622530d8158f012db1521a3dfad6bd5ca771e5", func := "broker/brokerlaw40.VoteOne", spec := "voteOne", apart := false }
def VoteOneSaid : Prop := voteOneRow.holds Try.pinned (OpenSpec.ofChange voteOneSpec)

/-- ITS FALSE NEIGHBOUR: 'it returns false'. Refute it at one input. -/
def voteOneWrong : ChangeSpec := { name := "voteOne", fn := fun _ => fun
  | [d1, d2, d3] => { results := [.lit (.bool false)], args := [d1, d2, d3] }
  | _ => none }
def VoteOneWrongFalsely : Prop := voteOneRow.holds Try.pinned (OpenSpec.ofChange voteOneWrong)

/-- 'brokerlaw40.VotePlays': WHATEVER THE INPUT: true; the input reads as it did. -/
def votePlaysSpec : ChangeSpec := { name := "votePlays", fn := fun _ => fun
  | [d1, d2] => { results := [.lit (.bool true)], args := [d1, d2] }
  | _ => none }
def votePlaysRow : OpenClaim := { program := "ytehjeifbgegabaa", sum := "53b71b21401966a5032a39e2f5622530d8158f012db1521a3dfad6bd5ca771e5", func := "broker/brokerlaw40.VotePlays", spec := "votePlays", recurses := true, apart := false }
def VotePlaysSaid : Prop := votePlaysRow.holds Try.pinned (OpenSpec.ofChange votePlaysSpec)

/-- ITS FALSE NEIGHBOUR: 'it returns false'. Refute it at one input. -/
def votePlaysWrong : ChangeSpec := { name := "votePlays", fn := fun _ => fun
  | [d1, d2] => { results := [.lit (.bool false)], args := [d1, d2] }
  | _ => none }
def VotePlaysWrongFalsely : Prop := votePlaysRow.holds Try.pinned (OpenSpec.ofChange votePlaysWrong)

/- THE SECOND FORM. 'bulk': how many values and letters a reading holds, each counted each time it is reached (what is shared counts as often as it is met; a slice's spare places count too). A statement '..UptoSaid' is the law's where the arguments, and the package variables that the reading takes, are together of bulk at most 1048576: NARROWER than '..Said'. Prove '..Said' where nothing that the law and all that it calls make is longer than what came in: it says more and counts as full. Else prove '..UptoSaid'. A law counts once. -/
mutual
def uptoBulk {H : Type} : DataW H → Nat
  | .lit (.string bytes) => bytes.length + 1
  | .lit _ => 1
  | .nil => 1
  | .ptr d => uptoBulk d + 1
  | .slice elems spare => uptoBulkAll elems + uptoBulkAll spare + 1
  | .agg parts => uptoBulkAll parts + 1
  | .iface _ d => uptoBulk d + 1
  | .map entries => uptoBulkEntries entries + 1
  | .held _ => 1
def uptoBulkAll {H : Type} : List (DataW H) → Nat
  | [] => 0
  | d :: r => uptoBulk d + uptoBulkAll r
def uptoBulkEntries {H : Type} : List (Lit × DataW H) → Nat
  | [] => 0
  | x :: r => uptoBulkEntry x + uptoBulkEntries r
def uptoBulkEntry {H : Type} : Lit × DataW H → Nat
  | (.string bytes, d) => bytes.length + uptoBulk d + 1
  | (_, d) => uptoBulk d + 1
 end
def uptoSmall : (H : Type) → List (DataW H) → Bool := fun _ ds => decide (uptoBulkAll ds ≤ 1048576)
def OpenSpec.upto (s : _root_.Go.ChangeSpec) : _root_.Go.OpenSpec := { _root_.Go.OpenSpec.ofChange s with cond := some uptoSmall }

/-- 'brokerlaw40.VoteNews', WHERE WHAT IT READS IS OF BULK AT MOST 1048576: true; the input reads as it did. -/
def voteNewsUptoRow : OpenClaim := { program := "ytehjeifbgegabaa", sum := "53b71b21401966a5032a39e2f5622530d8158f012db1521a3dfad6bd5ca771e5", func := "broker/brokerlaw40.VoteNews", spec := "voteNews", apart := false, narrowed := true }
def VoteNewsUptoSaid : Prop := voteNewsUptoRow.holds Try.pinned (OpenSpec.upto voteNewsSpec)

/-- 'brokerlaw40.VoteKeeps', WHERE WHAT IT READS IS OF BULK AT MOST 1048576: true; the input reads as it did. -/
def voteKeepsUptoRow : OpenClaim := { program := "ytehjeifbgegabaa", sum := "53b71b21401966a5032a39e2f5622530d8158f012db1521a3dfad6bd5ca771e5", func := "broker/brokerlaw40.VoteKeeps", spec := "voteKeeps", apart := false, narrowed := true }
def VoteKeepsUptoSaid : Prop := voteKeepsUptoRow.holds Try.pinned (OpenSpec.upto voteKeepsSpec)

/-- 'brokerlaw40.VoteOne', WHERE WHAT IT READS IS OF BULK AT MOST 1048576: true; the input reads as it did. -/
def voteOneUptoRow : OpenClaim := { program := "ytehjeifbgegabaa", sum := "53b71b21401966a5032a39e2f5622530d8158f012db1521a3dfad6bd5ca771e5", func := "broker/brokerlaw40.VoteOne", spec := "voteOne", apart := false, narrowed := true }
def VoteOneUptoSaid : Prop := voteOneUptoRow.holds Try.pinned (OpenSpec.upto voteOneSpec)

/-- 'brokerlaw40.VotePlays', WHERE WHAT IT READS IS OF BULK AT MOST 1048576: true; the input reads as it did. -/
def votePlaysUptoRow : OpenClaim := { program := "ytehjeifbgegabaa", sum := "53b71b21401966a5032a39e2f5622530d8158f012db1521a3dfad6bd5ca771e5", func := "broker/brokerlaw40.VotePlays", spec := "votePlays", recurses := true, apart := false, narrowed := true }
def VotePlaysUptoSaid : Prop := votePlaysUptoRow.holds Try.pinned (OpenSpec.upto votePlaysSpec)

end Rows
end Go.Proofs.Ytehjeifbgegabaa
