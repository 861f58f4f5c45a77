/-
  No cell of these rows narrows 'for every input' (looked for: loops, veiled, ifaces, maps, wideKeys, modest, calm, conditions, laid).
  DERIVED. THE GIVEN ROWS OF THIS SEAT. 16 by the template 'for every input the law returns true; each argument reads behind the call as it read before'; 0 by the template 'total and deterministic' (their statements: YtkklehfcadkikaaTotals.lean).
  GIVEN WITH THE SEED: the statements are not yours to turn. If you find one false, say at which input.
  Laid BY PROGRAM, IN A SANDBOX (cutbox-rows.mjs): the forced cells as the released guide's own fill.sh prints them over the translation 1fbfdadae200cb12… (all of the seat's roots in one cut). By AI agents, Wed Nov 11 2026. No macro, syntax, notation, axiom, sorry.
-/
import Derived.Test.YtkklehfcadkikaaChecked
import GoSem.Claim
import GoSem.ClaimJoined
import GoSem.ClaimMapViews
import Derived.JoinedTies
import Derived.KernelRfl
namespace Go.Proofs.Ytkklehfcadkikaa
/- THE CELL 'sum', in the pinned program and in every row, IS THE sha256 OF THE DUMP (.gsa) THAT YtkklehfcadkikaaProg.lean LOADS. Nothing in Lean hashes anything: it is a label: what it is worth is what the hold of that sum in a sandbox is worth. -/
noncomputable def Try.pinned : Pinned := { name := "ytkklehfcadkikaa", sum := "1fbfdadae200cb12b6ee40993a555b90b7cae0ceda9e22fc46f04e09d695d94b", checked := Try.checked }
namespace Rows
def none {H : Type} : Left H := { results := [], args := [] }

/-- 'brokerlaw03.PackNums': WHATEVER THE INPUT: true; the input reads as it did. -/
def packNumsSpec : ChangeSpec := { name := "packNums", fn := fun _ => fun
  | [d1, d2] => { results := [.lit (.bool true)], args := [d1, d2] }
  | _ => none }
def packNumsRow : OpenClaim := { program := "ytkklehfcadkikaa", sum := "1fbfdadae200cb12b6ee40993a555b90b7cae0ceda9e22fc46f04e09d695d94b", func := "broker/brokerlaw03.PackNums", spec := "packNums", apart := false }
def PackNumsSaid : Prop := packNumsRow.holds Try.pinned (OpenSpec.ofChange packNumsSpec)

/-- ITS FALSE NEIGHBOUR: 'it returns false'. Refute it at one input. -/
def packNumsWrong : ChangeSpec := { name := "packNums", fn := fun _ => fun
  | [d1, d2] => { results := [.lit (.bool false)], args := [d1, d2] }
  | _ => none }
def PackNumsWrongFalsely : Prop := packNumsRow.holds Try.pinned (OpenSpec.ofChange packNumsWrong)

/-- 'brokerlaw03.PackNumReads': WHATEVER THE INPUT: true; the input reads as it did. -/
def packNumReadsSpec : ChangeSpec := { name := "packNumReads", fn := fun _ => fun
  | [d1, d2] => { results := [.lit (.bool true)], args := [d1, d2] }
  | _ => none }
def packNumReadsRow : OpenClaim := { program := "ytkklehfcadkikaa", sum := "1fbfdadae200cb12b6ee40993a555b90b7cae0ceda9e22fc46f04e09d695d94b", func := "broker/brokerlaw03.PackNumReads", spec := "packNumReads", apart := false }
def PackNumReadsSaid : Prop := packNumReadsRow.holds Try.pinned (OpenSpec.ofChange packNumReadsSpec)

/-- ITS FALSE NEIGHBOUR: 'it returns false'. Refute it at one input. -/
def packNumReadsWrong : ChangeSpec := { name := "packNumReads", fn := fun _ => fun
  | [d1, d2] => { results := [.lit (.bool false)], args := [d1, d2] }
  | _ => none }
def PackNumReadsWrongFalsely : Prop := packNumReadsRow.holds Try.pinned (OpenSpec.ofChange packNumReadsWrong)

/-- 'brokerlaw03.PackTextPuts': WHATEVER THE INPUT: true; the input reads as it did. -/
def packTextPutsSpec : ChangeSpec := { name := "packTextPuts", fn := fun _ => fun
  | [d1, d2, d3] => { results := [.lit (.bool true)], args := [d1, d2, d3] }
  | _ => none }
def packTextPutsRow : OpenClaim := { program := "ytkklehfcadkikaa", sum := "1fbfdadae200cb12b6ee40993a555b90b7cae0ceda9e22fc46f04e09d695d94b", func := "broker/brokerlaw03.PackTextPuts", spec := "packTextPuts", apart := false }
def PackTextPutsSaid : Prop := packTextPutsRow.holds Try.pinned (OpenSpec.ofChange packTextPutsSpec)

/-- ITS FALSE NEIGHBOUR: 'it returns false'. Refute it at one input. -/
def packTextPutsWrong : ChangeSpec := { name := "packTextPuts", fn := fun _ => fun
  | [d1, d2, d3] => { results := [.lit (.bool false)], args := [d1, d2, d3] }
  | _ => none }
def PackTextPutsWrongFalsely : Prop := packTextPutsRow.holds Try.pinned (OpenSpec.ofChange packTextPutsWrong)

/-- 'brokerlaw03.PackFlags': WHATEVER THE INPUT: true; the input reads as it did. -/
def packFlagsSpec : ChangeSpec := { name := "packFlags", fn := fun _ => fun
  | [d1, d2, d3] => { results := [.lit (.bool true)], args := [d1, d2, d3] }
  | _ => none }
def packFlagsRow : OpenClaim := { program := "ytkklehfcadkikaa", sum := "1fbfdadae200cb12b6ee40993a555b90b7cae0ceda9e22fc46f04e09d695d94b", func := "broker/brokerlaw03.PackFlags", spec := "packFlags", apart := false }
def PackFlagsSaid : Prop := packFlagsRow.holds Try.pinned (OpenSpec.ofChange packFlagsSpec)

/-- ITS FALSE NEIGHBOUR: 'it returns false'. Refute it at one input. -/
def packFlagsWrong : ChangeSpec := { name := "packFlags", fn := fun _ => fun
  | [d1, d2, d3] => { results := [.lit (.bool false)], args := [d1, d2, d3] }
  | _ => none }
def PackFlagsWrongFalsely : Prop := packFlagsRow.holds Try.pinned (OpenSpec.ofChange packFlagsWrong)

/-- 'brokerlaw04.FrameSums': WHATEVER THE INPUT: true; the input reads as it did. -/
def frameSumsSpec : ChangeSpec := { name := "frameSums", fn := fun _ => fun
  | [d] => { results := [.lit (.bool true)], args := [d] }
  | _ => none }
def frameSumsRow : OpenClaim := { program := "ytkklehfcadkikaa", sum := "1fbfdadae200cb12b6ee40993a555b90b7cae0ceda9e22fc46f04e09d695d94b", func := "broker/brokerlaw04.FrameSums", spec := "frameSums", apart := false }
def FrameSumsSaid : Prop := frameSumsRow.holds Try.pinned (OpenSpec.ofChange frameSumsSpec)

/-- ITS FALSE NEIGHBOUR: 'it returns false'. Refute it at one input. -/
def frameSumsWrong : ChangeSpec := { name := "frameSums", fn := fun _ => fun
  | [d] => { results := [.lit (.bool false)], args := [d] }
  | _ => none }
def FrameSumsWrongFalsely : Prop := frameSumsRow.holds Try.pinned (OpenSpec.ofChange frameSumsWrong)

/-- 'brokerlaw04.FrameWraps': WHATEVER THE INPUT: true; the input reads as it did. -/
def frameWrapsSpec : ChangeSpec := { name := "frameWraps", fn := fun _ => fun
  | [d1, d2] => { results := [.lit (.bool true)], args := [d1, d2] }
  | _ => none }
def frameWrapsRow : OpenClaim := { program := "ytkklehfcadkikaa", sum := "1fbfdadae200cb12b6ee40993a555b90b7cae0ceda9e22fc46f04e09d695d94b", func := "broker/brokerlaw04.FrameWraps", spec := "frameWraps", apart := false }
def FrameWrapsSaid : Prop := frameWrapsRow.holds Try.pinned (OpenSpec.ofChange frameWrapsSpec)

/-- ITS FALSE NEIGHBOUR: 'it returns false'. Refute it at one input. -/
def frameWrapsWrong : ChangeSpec := { name := "frameWraps", fn := fun _ => fun
  | [d1, d2] => { results := [.lit (.bool false)], args := [d1, d2] }
  | _ => none }
def FrameWrapsWrongFalsely : Prop := frameWrapsRow.holds Try.pinned (OpenSpec.ofChange frameWrapsWrong)

/-- 'brokerlaw04.FrameReads': WHATEVER THE INPUT: true; the input reads as it did. -/
def frameReadsSpec : ChangeSpec := { name := "frameReads", fn := fun _ => fun
  | [d1, d2] => { results := [.lit (.bool true)], args := [d1, d2] }
  | _ => none }
def frameReadsRow : OpenClaim := { program := "ytkklehfcadkikaa", sum := "1fbfdadae200cb12b6ee40993a555b90b7cae0ceda9e22fc46f04e09d695d94b", func := "broker/brokerlaw04.FrameReads", spec := "frameReads", apart := false }
def FrameReadsSaid : Prop := frameReadsRow.holds Try.pinned (OpenSpec.ofChange frameReadsSpec)

/-- ITS FALSE NEIGHBOUR: 'it returns false'. Refute it at one input. -/
def frameReadsWrong : ChangeSpec := { name := "frameReads", fn := fun _ => fun
  | [d1, d2] => { results := [.lit (.bool false)], args := [d1, d2] }
  | _ => none }
def FrameReadsWrongFalsely : Prop := frameReadsRow.holds Try.pinned (OpenSpec.ofChange frameReadsWrong)

/-- 'brokerlaw04.FrameBack': WHATEVER THE INPUT: true; the input reads as it did. -/
def frameBackSpec : ChangeSpec := { name := "frameBack", fn := fun _ => fun
  | [d1, d2, d3] => { results := [.lit (.bool true)], args := [d1, d2, d3] }
  | _ => none }
def frameBackRow : OpenClaim := { program := "ytkklehfcadkikaa", sum := "1fbfdadae200cb12b6ee40993a555b90b7cae0ceda9e22fc46f04e09d695d94b", func := "broker/brokerlaw04.FrameBack", spec := "frameBack", apart := false }
def FrameBackSaid : Prop := frameBackRow.holds Try.pinned (OpenSpec.ofChange frameBackSpec)

/-- ITS FALSE NEIGHBOUR: 'it returns false'. Refute it at one input. -/
def frameBackWrong : ChangeSpec := { name := "frameBack", fn := fun _ => fun
  | [d1, d2, d3] => { results := [.lit (.bool false)], args := [d1, d2, d3] }
  | _ => none }
def FrameBackWrongFalsely : Prop := frameBackRow.holds Try.pinned (OpenSpec.ofChange frameBackWrong)

/-- 'brokerlaw04.FrameOnly': WHATEVER THE INPUT: true; the input reads as it did. -/
def frameOnlySpec : ChangeSpec := { name := "frameOnly", fn := fun _ => fun
  | [d] => { results := [.lit (.bool true)], args := [d] }
  | _ => none }
def frameOnlyRow : OpenClaim := { program := "ytkklehfcadkikaa", sum := "1fbfdadae200cb12b6ee40993a555b90b7cae0ceda9e22fc46f04e09d695d94b", func := "broker/brokerlaw04.FrameOnly", spec := "frameOnly", apart := false }
def FrameOnlySaid : Prop := frameOnlyRow.holds Try.pinned (OpenSpec.ofChange frameOnlySpec)

/-- ITS FALSE NEIGHBOUR: 'it returns false'. Refute it at one input. -/
def frameOnlyWrong : ChangeSpec := { name := "frameOnly", fn := fun _ => fun
  | [d] => { results := [.lit (.bool false)], args := [d] }
  | _ => none }
def FrameOnlyWrongFalsely : Prop := frameOnlyRow.holds Try.pinned (OpenSpec.ofChange frameOnlyWrong)

/-- 'brokerlaw04.FrameDamaged': WHATEVER THE INPUT: true; the input reads as it did. -/
def frameDamagedSpec : ChangeSpec := { name := "frameDamaged", fn := fun _ => fun
  | [d1, d2, d3] => { results := [.lit (.bool true)], args := [d1, d2, d3] }
  | _ => none }
def frameDamagedRow : OpenClaim := { program := "ytkklehfcadkikaa", sum := "1fbfdadae200cb12b6ee40993a555b90b7cae0ceda9e22fc46f04e09d695d94b", func := "broker/brokerlaw04.FrameDamaged", spec := "frameDamaged", apart := false }
def FrameDamagedSaid : Prop := frameDamagedRow.holds Try.pinned (OpenSpec.ofChange frameDamagedSpec)

/-- ITS FALSE NEIGHBOUR: 'it returns false'. Refute it at one input. -/
def frameDamagedWrong : ChangeSpec := { name := "frameDamaged", fn := fun _ => fun
  | [d1, d2, d3] => { results := [.lit (.bool false)], args := [d1, d2, d3] }
  | _ => none }
def FrameDamagedWrongFalsely : Prop := frameDamagedRow.holds Try.pinned (OpenSpec.ofChange frameDamagedWrong)

/-- 'brokerlaw03.PackTextReads': WHATEVER THE INPUT: true; the input reads as it did. -/
def packTextReadsSpec : ChangeSpec := { name := "packTextReads", fn := fun _ => fun
  | [d1, d2, d3] => { results := [.lit (.bool true)], args := [d1, d2, d3] }
  | _ => none }
def packTextReadsRow : OpenClaim := { program := "ytkklehfcadkikaa", sum := "1fbfdadae200cb12b6ee40993a555b90b7cae0ceda9e22fc46f04e09d695d94b", func := "broker/brokerlaw03.PackTextReads", spec := "packTextReads", apart := false }
def PackTextReadsSaid : Prop := packTextReadsRow.holds Try.pinned (OpenSpec.ofChange packTextReadsSpec)

/-- ITS FALSE NEIGHBOUR: 'it returns false'. Refute it at one input. -/
def packTextReadsWrong : ChangeSpec := { name := "packTextReads", fn := fun _ => fun
  | [d1, d2, d3] => { results := [.lit (.bool false)], args := [d1, d2, d3] }
  | _ => none }
def PackTextReadsWrongFalsely : Prop := packTextReadsRow.holds Try.pinned (OpenSpec.ofChange packTextReadsWrong)

/-- 'brokerlaw03.PackBack': WHATEVER THE INPUT: true; the input reads as it did. -/
def packBackSpec : ChangeSpec := { name := "packBack", fn := fun _ => fun
  | [d] => { results := [.lit (.bool true)], args := [d] }
  | _ => none }
def packBackRow : OpenClaim := { program := "ytkklehfcadkikaa", sum := "1fbfdadae200cb12b6ee40993a555b90b7cae0ceda9e22fc46f04e09d695d94b", func := "broker/brokerlaw03.PackBack", spec := "packBack", apart := false }
def PackBackSaid : Prop := packBackRow.holds Try.pinned (OpenSpec.ofChange packBackSpec)

/-- ITS FALSE NEIGHBOUR: 'it returns false'. Refute it at one input. -/
def packBackWrong : ChangeSpec := { name := "packBack", fn := fun _ => fun
  | [d] => { results := [.lit (.bool false)], args := [d] }
  | _ => none }
def PackBackWrongFalsely : Prop := packBackRow.holds Try.pinned (OpenSpec.ofChange packBackWrong)

/-- 'brokerlaw03.PackOnly': WHATEVER THE INPUT: true; the input reads as it did. -/
def packOnlySpec : ChangeSpec := { name := "packOnly", fn := fun _ => fun
  | [d1, d2] => { results := [.lit (.bool true)], args := [d1, d2] }
  | _ => none }
def packOnlyRow : OpenClaim := { program := "ytkklehfcadkikaa", sum := "1fbfdadae200cb12b6ee40993a555b90b7cae0ceda9e22fc46f04e09d695d94b", func := "broker/brokerlaw03.PackOnly", spec := "packOnly", apart := false }
def PackOnlySaid : Prop := packOnlyRow.holds Try.pinned (OpenSpec.ofChange packOnlySpec)

/-- ITS FALSE NEIGHBOUR: 'it returns false'. Refute it at one input. -/
def packOnlyWrong : ChangeSpec := { name := "packOnly", fn := fun _ => fun
  | [d1, d2] => { results := [.lit (.bool false)], args := [d1, d2] }
  | _ => none }
def PackOnlyWrongFalsely : Prop := packOnlyRow.holds Try.pinned (OpenSpec.ofChange packOnlyWrong)

/-- 'brokerlaw03.PackTorn': WHATEVER THE INPUT: true; the input reads as it did. -/
def packTornSpec : ChangeSpec := { name := "packTorn", fn := fun _ => fun
  | [d1, d2] => { results := [.lit (.bool true)], args := [d1, d2] }
  | _ => none }
def packTornRow : OpenClaim := { program := "ytkklehfcadkikaa", sum := "1fbfdadae200cb12b6ee40993a555b90b7cae0ceda9e22fc46f04e09d695d94b", func := "broker/brokerlaw03.PackTorn", spec := "packTorn", apart := false }
def PackTornSaid : Prop := packTornRow.holds Try.pinned (OpenSpec.ofChange packTornSpec)

/-- ITS FALSE NEIGHBOUR: 'it returns false'. Refute it at one input. -/
def packTornWrong : ChangeSpec := { name := "packTorn", fn := fun _ => fun
  | [d1, d2] => { results := [.lit (.bool false)], args := [d1, d2] }
  | _ => none }
def PackTornWrongFalsely : Prop := packTornRow.holds Try.pinned (OpenSpec.ofChange packTornWrong)

/-- 'brokerlaw04.FrameAlls': WHATEVER THE INPUT: true; the input reads as it did. -/
def frameAllsSpec : ChangeSpec := { name := "frameAlls", fn := fun _ => fun
  | [d] => { results := [.lit (.bool true)], args := [d] }
  | _ => none }
def frameAllsRow : OpenClaim := { program := "ytkklehfcadkikaa", sum := "1fbfdadae200cb12b6ee40993a555b90b7cae0ceda9e22fc46f04e09d695d94b", func := "broker/brokerlaw04.FrameAlls", spec := "frameAlls", apart := false }
def FrameAllsSaid : Prop := frameAllsRow.holds Try.pinned (OpenSpec.ofChange frameAllsSpec)

/-- ITS FALSE NEIGHBOUR: 'it returns false'. Refute it at one input. -/
def frameAllsWrong : ChangeSpec := { name := "frameAlls", fn := fun _ => fun
  | [d] => { results := [.lit (.bool false)], args := [d] }
  | _ => none }
def FrameAllsWrongFalsely : Prop := frameAllsRow.holds Try.pinned (OpenSpec.ofChange frameAllsWrong)

/-- 'brokerlaw04.FrameTorn': WHATEVER THE INPUT: true; the input reads as it did. -/
def frameTornSpec : ChangeSpec := { name := "frameTorn", fn := fun _ => fun
  | [d1, d2] => { results := [.lit (.bool true)], args := [d1, d2] }
  | _ => none }
def frameTornRow : OpenClaim := { program := "ytkklehfcadkikaa", sum := "1fbfdadae200cb12b6ee40993a555b90b7cae0ceda9e22fc46f04e09d695d94b", func := "broker/brokerlaw04.FrameTorn", spec := "frameTorn", apart := false }
def FrameTornSaid : Prop := frameTornRow.holds Try.pinned (OpenSpec.ofChange frameTornSpec)

/-- ITS FALSE NEIGHBOUR: 'it returns false'. Refute it at one input. -/
def frameTornWrong : ChangeSpec := { name := "frameTorn", fn := fun _ => fun
  | [d1, d2] => { results := [.lit (.bool false)], args := [d1, d2] }
  | _ => none }
def FrameTornWrongFalsely : Prop := frameTornRow.holds Try.pinned (OpenSpec.ofChange frameTornWrong)

/- THE SECOND FORM. 'bulk': how many values and letters a reading holds, each counted each time it is reached (what is shared counts as often as it is met; a slice's spare places count too). A statement '..UptoSaid' is the law's where the arguments, and the package variables that the reading takes, are together of bulk at most 1048576: NARROWER than '..Said'. Prove '..Said' where nothing that the law and all that it calls make is longer than what came in: it says more and counts as full. Else prove '..UptoSaid'. A law counts once. -/
mutual
def uptoBulk {H : Type} : DataW H → Nat
  | .lit (.string bytes) => bytes.length + 1
  | .lit _ => 1
  | .nil => 1
  | .ptr d => uptoBulk d + 1
  | .slice elems spare => uptoBulkAll elems + uptoBulkAll spare + 1
  | .agg parts => uptoBulkAll parts + 1
  | .iface _ d => uptoBulk d + 1
  | .map entries => uptoBulkEntries entries + 1
  | .held _ => 1
def uptoBulkAll {H : Type} : List (DataW H) → Nat
  | [] => 0
  | d :: r => uptoBulk d + uptoBulkAll r
def uptoBulkEntries {H : Type} : List (Lit × DataW H) → Nat
  | [] => 0
  | x :: r => uptoBulkEntry x + uptoBulkEntries r
def uptoBulkEntry {H : Type} : Lit × DataW H → Nat
  | (.string bytes, d) => bytes.length + uptoBulk d + 1
  | (_, d) => uptoBulk d + 1
 end
def uptoSmall : (H : Type) → List (DataW H) → Bool := fun _ ds => decide (uptoBulkAll ds ≤ 1048576)
def OpenSpec.upto (s : _root_.Go.ChangeSpec) : _root_.Go.OpenSpec := { _root_.Go.OpenSpec.ofChange s with cond := some uptoSmall }

/-- 'brokerlaw03.PackNums', WHERE WHAT IT READS IS OF BULK AT MOST 1048576: true; the input reads as it did. -/
def packNumsUptoRow : OpenClaim := { program := "ytkklehfcadkikaa", sum := "1fbfdadae200cb12b6ee40993a555b90b7cae0ceda9e22fc46f04e09d695d94b", func := "broker/brokerlaw03.PackNums", spec := "packNums", apart := false, narrowed := true }
def PackNumsUptoSaid : Prop := packNumsUptoRow.holds Try.pinned (OpenSpec.upto packNumsSpec)

/-- 'brokerlaw03.PackNumReads', WHERE WHAT IT READS IS OF BULK AT MOST 1048576: true; the input reads as it did. -/
def packNumReadsUptoRow : OpenClaim := { program := "ytkklehfcadkikaa", sum := "1fbfdadae200cb12b6ee40993a555b90b7cae0ceda9e22fc46f04e09d695d94b", func := "broker/brokerlaw03.PackNumReads", spec := "packNumReads", apart := false, narrowed := true }
def PackNumReadsUptoSaid : Prop := packNumReadsUptoRow.holds Try.pinned (OpenSpec.upto packNumReadsSpec)

/-- 'brokerlaw03.PackTextPuts', WHERE WHAT IT READS IS OF BULK AT MOST 1048576: true; the input reads as it did. -/
def packTextPutsUptoRow : OpenClaim := { program := "ytkklehfcadkikaa", sum := "1fbfdadae200cb12b6ee40993a555b90b7cae0ceda9e22fc46f04e09d695d94b", func := "broker/brokerlaw03.PackTextPuts", spec := "packTextPuts", apart := false, narrowed := true }
def PackTextPutsUptoSaid : Prop := packTextPutsUptoRow.holds Try.pinned (OpenSpec.upto packTextPutsSpec)

/-- 'brokerlaw03.PackFlags', WHERE WHAT IT READS IS OF BULK AT MOST 1048576: true; the input reads as it did. -/
def packFlagsUptoRow : OpenClaim := { program := "ytkklehfcadkikaa", sum := "1fbfdadae200cb12b6ee40993a555b90b7cae0ceda9e22fc46f04e09d695d94b", func := "broker/brokerlaw03.PackFlags", spec := "packFlags", apart := false, narrowed := true }
def PackFlagsUptoSaid : Prop := packFlagsUptoRow.holds Try.pinned (OpenSpec.upto packFlagsSpec)

/-- 'brokerlaw04.FrameSums', WHERE WHAT IT READS IS OF BULK AT MOST 1048576: true; the input reads as it did. -/
def frameSumsUptoRow : OpenClaim := { program := "ytkklehfcadkikaa", sum := "1fbfdadae200cb12b6ee40993a555b90b7cae0ceda9e22fc46f04e09d695d94b", func := "broker/brokerlaw04.FrameSums", spec := "frameSums", apart := false, narrowed := true }
def FrameSumsUptoSaid : Prop := frameSumsUptoRow.holds Try.pinned (OpenSpec.upto frameSumsSpec)

/-- 'brokerlaw04.FrameWraps', WHERE WHAT IT READS IS OF BULK AT MOST 1048576: true; the input reads as it did. -/
def frameWrapsUptoRow : OpenClaim := { program := "ytkklehfcadkikaa", sum := "1fbfdadae200cb12b6ee40993a555b90b7cae0ceda9e22fc46f04e09d695d94b", func := "broker/brokerlaw04.FrameWraps", spec := "frameWraps", apart := false, narrowed := true }
def FrameWrapsUptoSaid : Prop := frameWrapsUptoRow.holds Try.pinned (OpenSpec.upto frameWrapsSpec)

/-- 'brokerlaw04.FrameReads', WHERE WHAT IT READS IS OF BULK AT MOST 1048576: true; the input reads as it did. -/
def frameReadsUptoRow : OpenClaim := { program := "ytkklehfcadkikaa", sum := "1fbfdadae200cb12b6ee40993a555b90b7cae0ceda9e22fc46f04e09d695d94b", func := "broker/brokerlaw04.FrameReads", spec := "frameReads", apart := false, narrowed := true }
def FrameReadsUptoSaid : Prop := frameReadsUptoRow.holds Try.pinned (OpenSpec.upto frameReadsSpec)

/-- 'brokerlaw04.FrameBack', WHERE WHAT IT READS IS OF BULK AT MOST 1048576: true; the input reads as it did. -/
def frameBackUptoRow : OpenClaim := { program := "ytkklehfcadkikaa", sum := "1fbfdadae200cb12b6ee40993a555b90b7cae0ceda9e22fc46f04e09d695d94b", func := "broker/brokerlaw04.FrameBack", spec := "frameBack", apart := false, narrowed := true }
def FrameBackUptoSaid : Prop := frameBackUptoRow.holds Try.pinned (OpenSpec.upto frameBackSpec)

/-- 'brokerlaw04.FrameOnly', WHERE WHAT IT READS IS OF BULK AT MOST 1048576: true; the input reads as it did. -/
def frameOnlyUptoRow : OpenClaim := { program := "ytkklehfcadkikaa", sum := "1fbfdadae200cb12b6ee40993a555b90b7cae0ceda9e22fc46f04e09d695d94b", func := "broker/brokerlaw04.FrameOnly", spec := "frameOnly", apart := false, narrowed := true }
def FrameOnlyUptoSaid : Prop := frameOnlyUptoRow.holds Try.pinned (OpenSpec.upto frameOnlySpec)

/-- 'brokerlaw04.FrameDamaged', WHERE WHAT IT READS IS OF BULK AT MOST 1048576: true; the input reads as it did. -/
def frameDamagedUptoRow : OpenClaim := { program := "ytkklehfcadkikaa", sum := "1fbfdadae200cb12b6ee40993a555b90b7cae0ceda9e22fc46f04e09d695d94b", func := "broker/brokerlaw04.FrameDamaged", spec := "frameDamaged", apart := false, narrowed := true }
def FrameDamagedUptoSaid : Prop := frameDamagedUptoRow.holds Try.pinned (OpenSpec.upto frameDamagedSpec)

/-- 'brokerlaw03.PackTextReads', WHERE WHAT IT READS IS OF BULK AT MOST 1048576: true; the input reads as it did. -/
def packTextReadsUptoRow : OpenClaim := { program := "ytkklehfcadkikaa", sum := "1fbfdadae200cb12b6ee40993a555b90b7cae0ceda9e22fc46f04e09d695d94b", func := "broker/brokerlaw03.PackTextReads", spec := "packTextReads", apart := false, narrowed := true }
def PackTextReadsUptoSaid : Prop := packTextReadsUptoRow.holds Try.pinned (OpenSpec.upto packTextReadsSpec)

/-- 'brokerlaw03.PackBack', WHERE WHAT IT READS IS OF BULK AT MOST 1048576: true; the input reads as it did. -/
def packBackUptoRow : OpenClaim := { program := "ytkklehfcadkikaa", sum := "1fbfdadae200cb12b6ee40993a555b90b7cae0ceda9e22fc46f04e09d695d94b", func := "broker/brokerlaw03.PackBack", spec := "packBack", apart := false, narrowed := true }
def PackBackUptoSaid : Prop := packBackUptoRow.holds Try.pinned (OpenSpec.upto packBackSpec)

/-- 'brokerlaw03.PackOnly', WHERE WHAT IT READS IS OF BULK AT MOST 1048576: true; the input reads as it did. -/
def packOnlyUptoRow : OpenClaim := { program := "ytkklehfcadkikaa", sum := "1fbfdadae200cb12b6ee40993a555b90b7cae0ceda9e22fc46f04e09d695d94b", func := "broker/brokerlaw03.PackOnly", spec := "packOnly", apart := false, narrowed := true }
def PackOnlyUptoSaid : Prop := packOnlyUptoRow.holds Try.pinned (OpenSpec.upto packOnlySpec)

/-- 'brokerlaw03.PackTorn', WHERE WHAT IT READS IS OF BULK AT MOST 1048576: true; the input reads as it did. -/
def packTornUptoRow : OpenClaim := { program := "ytkklehfcadkikaa", sum := "1fbfdadae200cb12b6ee40993a555b90b7cae0ceda9e22fc46f04e09d695d94b", func := "broker/brokerlaw03.PackTorn", spec := "packTorn", apart := false, narrowed := true }
def PackTornUptoSaid : Prop := packTornUptoRow.holds Try.pinned (OpenSpec.upto packTornSpec)

/-- 'brokerlaw04.FrameAlls', WHERE WHAT IT READS IS OF BULK AT MOST 1048576: true; the input reads as it did. -/
def frameAllsUptoRow : OpenClaim := { program := "ytkklehfcadkikaa", sum := "1fbfdadae200cb12b6ee40993a555b90b7cae0ceda9e22fc46f04e09d695d94b", func := "broker/brokerlaw04.FrameAlls", spec := "frameAlls", apart := false, narrowed := true }
def FrameAllsUptoSaid : Prop := frameAllsUptoRow.holds Try.pinned (OpenSpec.upto frameAllsSpec)

/-- 'brokerlaw04.FrameTorn', WHERE WHAT IT READS IS OF BULK AT MOST 1048576: true; the input reads as it did. -/
def frameTornUptoRow : OpenClaim := { program := "ytkklehfcadkikaa", sum := "1fbfdadae200cb12b6ee40993a555b90b7cae0ceda9e22fc46f04e09d695d94b", func := "broker/brokerlaw04.FrameTorn", spec := "frameTorn", apart := false, narrowed := true }
def FrameTornUptoSaid : Prop := frameTornUptoRow.holds Try.pinned (OpenSpec.upto frameTornSpec)

end Rows
end Go.Proofs.Ytkklehfcadkikaa
