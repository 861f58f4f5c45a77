/- The program's types (U). -/
import Derived.Test.YtkkelbakadbbhaaTv12
import Derived.Test.YtkkelbakadbbhaaChecked
import Derived.KernelRfl
set_option linter.unusedVariables false
set_option maxRecDepth 100000
namespace Go.Proofs.Ytkkelbakadbbhaa.EVT
open Go.EV
def tl : List (Nat × TI) := [
  (3, ⟨.int .i64, 1, 8, .i .i64 0⟩),
  (4, ⟨.bool, 1, 1, .b false⟩),
  (5, ⟨.int .u8, 1, 1, .i .u8 0⟩),
  (9, ⟨.str, 1, 16, .s []⟩),
  (22, ⟨.st [3, 3, 9, 9], 4, 48, .ag [.i .i64 0, .i .i64 0, .s [], .s []]⟩),
  (23, ⟨.st [3, 3, 9, 9], 4, 48, .ag [.i .i64 0, .i .i64 0, .s [], .s []]⟩),
  (25, ⟨.int .i64, 1, 8, .i .i64 0⟩),
  (28, ⟨.sl 5, 1, 24, .sl true []⟩),
  (38, ⟨.st [3, 3, 5], 3, 24, .ag [.i .i64 0, .i .i64 0, .i .u8 0]⟩),
  (39, ⟨.st [3, 3, 5], 3, 24, .ag [.i .i64 0, .i .i64 0, .i .u8 0]⟩),
  (42, ⟨.st [3, 3, 28], 3, 40, .ag [.i .i64 0, .i .i64 0, .sl true []]⟩),
  (43, ⟨.st [3, 3, 28], 3, 40, .ag [.i .i64 0, .i .i64 0, .sl true []]⟩),
  (44, ⟨.sl 51, 1, 24, .sl true []⟩),
  (50, ⟨.st [3, 3], 2, 16, .ag [.i .i64 0, .i .i64 0]⟩),
  (51, ⟨.st [3, 3], 2, 16, .ag [.i .i64 0, .i .i64 0]⟩),
  (55, ⟨.st [3, 3], 2, 16, .ag [.i .i64 0, .i .i64 0]⟩),
  (56, ⟨.st [3, 3], 2, 16, .ag [.i .i64 0, .i .i64 0]⟩),
  (58, ⟨.sl 23, 1, 24, .sl true []⟩),
  (91, ⟨.pt 93, 1, 8, .np⟩),
  (92, ⟨.st [28, 3, 25], 3, 40, .ag [.sl true [], .i .i64 0, .i .i64 0]⟩),
  (93, ⟨.st [28, 3, 25], 3, 40, .ag [.sl true [], .i .i64 0, .i .i64 0]⟩),
  (99, ⟨.int .u64, 1, 8, .i .u64 0⟩),
  (100, ⟨.int .u64, 1, 8, .i .u64 0⟩),
  (104, ⟨.int .u32, 1, 4, .i .u32 0⟩)]
def yl : List (Nat × Ty) := [
  (3, .i .i64),
  (4, .b),
  (5, .u8),
  (9, .s),
  (22, .st (.pr (.i .i64) (.pr (.i .i64) (.pr .s .s)))),
  (23, .st (.pr (.i .i64) (.pr (.i .i64) (.pr .s .s)))),
  (25, .i .i64),
  (28, .sl .u8),
  (38, .st (.pr (.i .i64) (.pr (.i .i64) (.i .u8)))),
  (39, .st (.pr (.i .i64) (.pr (.i .i64) (.i .u8)))),
  (42, .st (.pr (.i .i64) (.pr (.i .i64) (.sl .u8)))),
  (43, .st (.pr (.i .i64) (.pr (.i .i64) (.sl .u8)))),
  (44, .sl (.st (.pr (.i .i64) (.i .i64)))),
  (50, .st (.pr (.i .i64) (.i .i64))),
  (51, .st (.pr (.i .i64) (.i .i64))),
  (55, .st (.pr (.i .i64) (.i .i64))),
  (56, .st (.pr (.i .i64) (.i .i64))),
  (58, .sl (.st (.pr (.i .i64) (.pr (.i .i64) (.pr .s .s))))),
  (92, .st (.pr (.sl .u8) (.pr (.i .i64) (.i .i64)))),
  (93, .st (.pr (.sl .u8) (.pr (.i .i64) (.i .i64)))),
  (99, .i .u64),
  (100, .i .u64),
  (104, .i .u32)]
def T : TT := tab tl
def Y : Nat → Option Ty := fun t => yl.lookup t
def holds : List Nat := [25, 26, 35, 36, 43, 44, 51, 52, 53, 54, 55, 56, 57, 58, 59, 60, 62, 70, 73, 74, 75, 76, 77, 78]
def mds : List (Nat × List Md) := [(74, [.io]), (75, [.io, .rd]), (79, [.ow, .rd])]
def an : FuncId → An := fun f => { fr := true, hold := holds.contains f, md := (mds.lookup f).getD [] }
theorem tlok : tl.all (fun p => tiChk Try.prog T p.1 p.2) = true := by kernel_rfl
theorem tok : TOk Try.prog T ∧ ShOk T := tab_ok tlok
theorem mixed : Try.prog.follows .mixedOrders = true := by kernel_rfl
end Go.Proofs.Ytkkelbakadbbhaa.EVT
