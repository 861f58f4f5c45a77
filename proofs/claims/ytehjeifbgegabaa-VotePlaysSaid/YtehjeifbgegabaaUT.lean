/- The program's types (U). -/
import Derived.Test.YtehjeifbgegabaaTv12
import Derived.Test.YtehjeifbgegabaaChecked
import Derived.KernelRfl
set_option linter.unusedVariables false
set_option maxRecDepth 100000
namespace Go.Proofs.Ytehjeifbgegabaa.EVT
open Go.EV
def tl : List (Nat × TI) := [
  (3, ⟨.int .i64, 1, 8, .i .i64 0⟩),
  (4, ⟨.bool, 1, 1, .b false⟩),
  (5, ⟨.int .u8, 1, 1, .i .u8 0⟩),
  (9, ⟨.str, 1, 16, .s []⟩),
  (22, ⟨.sl 3, 1, 24, .sl true []⟩),
  (23, ⟨.st [3, 3, 3, 3, 3, 3, 22], 7, 72, .ag [.i .i64 0, .i .i64 0, .i .i64 0, .i .i64 0, .i .i64 0, .i .i64 0, .sl true []]⟩),
  (24, ⟨.st [3, 3, 3, 3, 3, 3, 22], 7, 72, .ag [.i .i64 0, .i .i64 0, .i .i64 0, .i .i64 0, .i .i64 0, .i .i64 0, .sl true []]⟩),
  (26, ⟨.int .i64, 1, 8, .i .i64 0⟩),
  (32, ⟨.sl 75, 1, 24, .sl true []⟩),
  (33, ⟨.st [3, 3, 3, 3, 3, 3, 3, 4, 32], 9, 88, .ag [.i .i64 0, .i .i64 0, .i .i64 0, .i .i64 0, .i .i64 0, .i .i64 0, .i .i64 0, .b false, .sl true []]⟩),
  (34, ⟨.st [3, 3, 3, 3, 3, 3, 3, 4, 32], 9, 88, .ag [.i .i64 0, .i .i64 0, .i .i64 0, .i .i64 0, .i .i64 0, .i .i64 0, .i .i64 0, .b false, .sl true []]⟩),
  (35, ⟨.st [3, 3, 3, 3, 34], 13, 120, .ag [.i .i64 0, .i .i64 0, .i .i64 0, .i .i64 0, .ag [.i .i64 0, .i .i64 0, .i .i64 0, .i .i64 0, .i .i64 0, .i .i64 0, .i .i64 0, .b false, .sl true []]]⟩),
  (36, ⟨.st [3, 3, 3, 3, 34], 13, 120, .ag [.i .i64 0, .i .i64 0, .i .i64 0, .i .i64 0, .ag [.i .i64 0, .i .i64 0, .i .i64 0, .i .i64 0, .i .i64 0, .i .i64 0, .i .i64 0, .b false, .sl true []]]⟩),
  (37, ⟨.sl 34, 1, 24, .sl true []⟩),
  (44, ⟨.sl 24, 1, 24, .sl true []⟩),
  (46, ⟨.sl 5, 1, 24, .sl true []⟩),
  (47, ⟨.sl 50, 1, 24, .sl true []⟩),
  (48, ⟨.sl 53, 1, 24, .sl true []⟩),
  (49, ⟨.st [3, 3], 2, 16, .ag [.i .i64 0, .i .i64 0]⟩),
  (50, ⟨.st [3, 3], 2, 16, .ag [.i .i64 0, .i .i64 0]⟩),
  (52, ⟨.st [3, 3], 2, 16, .ag [.i .i64 0, .i .i64 0]⟩),
  (53, ⟨.st [3, 3], 2, 16, .ag [.i .i64 0, .i .i64 0]⟩),
  (56, ⟨.sl 36, 1, 24, .sl true []⟩),
  (60, ⟨.arr 3 24, 21, 216, .ar 7 [.ag [.i .i64 0, .i .i64 0, .i .i64 0, .i .i64 0, .i .i64 0, .i .i64 0, .sl true []], .ag [.i .i64 0, .i .i64 0, .i .i64 0, .i .i64 0, .i .i64 0, .i .i64 0, .sl true []], .ag [.i .i64 0, .i .i64 0, .i .i64 0, .i .i64 0, .i .i64 0, .i .i64 0, .sl true []]]⟩),
  (66, ⟨.arr 7 4, 7, 7, .ar 1 [.b false, .b false, .b false, .b false, .b false, .b false, .b false]⟩),
  (74, ⟨.st [3, 9], 2, 24, .ag [.i .i64 0, .s []]⟩),
  (75, ⟨.st [3, 9], 2, 24, .ag [.i .i64 0, .s []]⟩),
  (80, ⟨.int .u64, 1, 8, .i .u64 0⟩),
  (90, ⟨.int .u32, 1, 4, .i .u32 0⟩),
  (92, ⟨.int .u64, 1, 8, .i .u64 0⟩)]
def yl : List (Nat × Ty) := [
  (3, .i .i64),
  (4, .b),
  (5, .u8),
  (9, .s),
  (22, .sl (.i .i64)),
  (23, .st (.pr (.i .i64) (.pr (.i .i64) (.pr (.i .i64) (.pr (.i .i64) (.pr (.i .i64) (.pr (.i .i64) (.sl (.i .i64))))))))),
  (24, .st (.pr (.i .i64) (.pr (.i .i64) (.pr (.i .i64) (.pr (.i .i64) (.pr (.i .i64) (.pr (.i .i64) (.sl (.i .i64))))))))),
  (26, .i .i64),
  (32, .sl (.st (.pr (.i .i64) .s))),
  (33, .st (.pr (.i .i64) (.pr (.i .i64) (.pr (.i .i64) (.pr (.i .i64) (.pr (.i .i64) (.pr (.i .i64) (.pr (.i .i64) (.pr .b (.sl (.st (.pr (.i .i64) .s)))))))))))),
  (34, .st (.pr (.i .i64) (.pr (.i .i64) (.pr (.i .i64) (.pr (.i .i64) (.pr (.i .i64) (.pr (.i .i64) (.pr (.i .i64) (.pr .b (.sl (.st (.pr (.i .i64) .s)))))))))))),
  (35, .st (.pr (.i .i64) (.pr (.i .i64) (.pr (.i .i64) (.pr (.i .i64) (.st (.pr (.i .i64) (.pr (.i .i64) (.pr (.i .i64) (.pr (.i .i64) (.pr (.i .i64) (.pr (.i .i64) (.pr (.i .i64) (.pr .b (.sl (.st (.pr (.i .i64) .s))))))))))))))))),
  (36, .st (.pr (.i .i64) (.pr (.i .i64) (.pr (.i .i64) (.pr (.i .i64) (.st (.pr (.i .i64) (.pr (.i .i64) (.pr (.i .i64) (.pr (.i .i64) (.pr (.i .i64) (.pr (.i .i64) (.pr (.i .i64) (.pr .b (.sl (.st (.pr (.i .i64) .s))))))))))))))))),
  (37, .sl (.st (.pr (.i .i64) (.pr (.i .i64) (.pr (.i .i64) (.pr (.i .i64) (.pr (.i .i64) (.pr (.i .i64) (.pr (.i .i64) (.pr .b (.sl (.st (.pr (.i .i64) .s))))))))))))),
  (44, .sl (.st (.pr (.i .i64) (.pr (.i .i64) (.pr (.i .i64) (.pr (.i .i64) (.pr (.i .i64) (.pr (.i .i64) (.sl (.i .i64)))))))))),
  (46, .sl .u8),
  (47, .sl (.st (.pr (.i .i64) (.i .i64)))),
  (48, .sl (.st (.pr (.i .i64) (.i .i64)))),
  (49, .st (.pr (.i .i64) (.i .i64))),
  (50, .st (.pr (.i .i64) (.i .i64))),
  (52, .st (.pr (.i .i64) (.i .i64))),
  (53, .st (.pr (.i .i64) (.i .i64))),
  (56, .sl (.st (.pr (.i .i64) (.pr (.i .i64) (.pr (.i .i64) (.pr (.i .i64) (.st (.pr (.i .i64) (.pr (.i .i64) (.pr (.i .i64) (.pr (.i .i64) (.pr (.i .i64) (.pr (.i .i64) (.pr (.i .i64) (.pr .b (.sl (.st (.pr (.i .i64) .s)))))))))))))))))),
  (74, .st (.pr (.i .i64) .s)),
  (75, .st (.pr (.i .i64) .s)),
  (80, .i .u64),
  (90, .i .u32),
  (92, .i .u64)]
def T : TT := tab tl
def Y : Nat → Option Ty := fun t => yl.lookup t
def holds : List Nat := [8, 9, 13, 14, 15, 16, 17, 19, 24, 25, 26, 30, 33, 35, 38, 40]
def mds : List (Nat × List Md) := [(17, [.io, .rd, .rd]), (45, [.io]), (46, [.ow]), (47, [.io, .rd, .rd, .rd]), (49, [.io, .rd, .rd])]
def an : FuncId → An := fun f => { fr := true, hold := holds.contains f, md := (mds.lookup f).getD [] }
theorem tlok : tl.all (fun p => tiChk Try.prog T p.1 p.2) = true := by kernel_rfl
theorem tok : TOk Try.prog T ∧ ShOk T := tab_ok tlok
theorem mixed : Try.prog.follows .mixedOrders = true := by kernel_rfl
end Go.Proofs.Ytehjeifbgegabaa.EVT
