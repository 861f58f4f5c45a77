/- The program's types (U). -/
import Derived.Test.YtkklehfcadkikaaTv12
import Derived.Test.YtkklehfcadkikaaChecked
import Derived.KernelRfl
set_option linter.unusedVariables false
set_option maxRecDepth 100000
namespace Go.Proofs.Ytkklehfcadkikaa.EVT
open Go.EV
def tl : List (Nat × TI) := [
  (3, ⟨.int .i64, 1, 8, .i .i64 0⟩),
  (4, ⟨.bool, 1, 1, .b false⟩),
  (5, ⟨.int .u8, 1, 1, .i .u8 0⟩),
  (9, ⟨.str, 1, 16, .s []⟩),
  (22, ⟨.sl 5, 1, 24, .sl true []⟩),
  (27, ⟨.int .i64, 1, 8, .i .i64 0⟩),
  (30, ⟨.sl 9, 1, 24, .sl true []⟩),
  (35, ⟨.sl 4, 1, 24, .sl true []⟩),
  (57, ⟨.sl 22, 1, 24, .sl true []⟩),
  (63, ⟨.int .u64, 1, 8, .i .u64 0⟩),
  (67, ⟨.int .u32, 1, 4, .i .u32 0⟩)]
def yl : List (Nat × Ty) := [
  (3, .i .i64),
  (4, .b),
  (5, .u8),
  (9, .s),
  (22, .sl .u8),
  (27, .i .i64),
  (30, .sl .s),
  (35, .sl .b),
  (57, .sl (.sl .u8)),
  (63, .i .u64),
  (67, .i .u32)]
def T : TT := tab tl
def Y : Nat → Option Ty := fun t => yl.lookup t
def holds : List Nat := [22, 27, 29, 38, 41, 42, 45, 46, 49, 50]
def mds : List (Nat × List Md) := [(53, [.ow, .rd])]
def an : FuncId → An := fun f => { fr := true, hold := holds.contains f, md := (mds.lookup f).getD [] }
theorem tlok : tl.all (fun p => tiChk Try.prog T p.1 p.2) = true := by kernel_rfl
theorem tok : TOk Try.prog T ∧ ShOk T := tab_ok tlok
theorem mixed : Try.prog.follows .mixedOrders = true := by kernel_rfl
end Go.Proofs.Ytkklehfcadkikaa.EVT
