/- The program's types (U). -/
import Derived.Test.YtbncnkchedhnpaaTv12
import Derived.Test.YtbncnkchedhnpaaChecked
import Derived.KernelRfl
set_option linter.unusedVariables false
set_option maxRecDepth 100000
namespace Go.Proofs.Ytbncnkchedhnpaa.EVT
open Go.EV
def tl : List (Nat × TI) := [
  (3, ⟨.int .i64, 1, 8, .i .i64 0⟩),
  (4, ⟨.bool, 1, 1, .b false⟩),
  (5, ⟨.int .u8, 1, 1, .i .u8 0⟩),
  (9, ⟨.str, 1, 16, .s []⟩),
  (22, ⟨.sl 33, 1, 24, .sl true []⟩),
  (25, ⟨.pt 65, 1, 8, .np⟩),
  (26, ⟨.int .i64, 1, 8, .i .i64 0⟩),
  (29, ⟨.sl 31, 1, 24, .sl true []⟩),
  (30, ⟨.st [3, 3, 9, 9], 4, 48, .ag [.i .i64 0, .i .i64 0, .s [], .s []]⟩),
  (31, ⟨.st [3, 3, 9, 9], 4, 48, .ag [.i .i64 0, .i .i64 0, .s [], .s []]⟩),
  (32, ⟨.st [5, 3, 3, 31], 7, 72, .ag [.i .u8 0, .i .i64 0, .i .i64 0, .ag [.i .i64 0, .i .i64 0, .s [], .s []]]⟩),
  (33, ⟨.st [5, 3, 3, 31], 7, 72, .ag [.i .u8 0, .i .i64 0, .i .i64 0, .ag [.i .i64 0, .i .i64 0, .s [], .s []]]⟩),
  (42, ⟨.sl 47, 1, 24, .sl true []⟩),
  (45, ⟨.sl 5, 1, 24, .sl true []⟩),
  (46, ⟨.st [3, 3, 45], 3, 40, .ag [.i .i64 0, .i .i64 0, .sl true []]⟩),
  (47, ⟨.st [3, 3, 45], 3, 40, .ag [.i .i64 0, .i .i64 0, .sl true []]⟩),
  (51, ⟨.st [3, 42], 2, 32, .ag [.i .i64 0, .sl true []]⟩),
  (52, ⟨.st [3, 42], 2, 32, .ag [.i .i64 0, .sl true []]⟩),
  (64, ⟨.st [3, 42], 2, 32, .ag [.i .i64 0, .sl true []]⟩),
  (65, ⟨.st [3, 42], 2, 32, .ag [.i .i64 0, .sl true []]⟩),
  (71, ⟨.sl 89, 1, 24, .sl true []⟩),
  (88, ⟨.st [3, 3], 2, 16, .ag [.i .i64 0, .i .i64 0]⟩),
  (89, ⟨.st [3, 3], 2, 16, .ag [.i .i64 0, .i .i64 0]⟩),
  (94, ⟨.pt 96, 1, 8, .np⟩),
  (95, ⟨.st [45, 3, 26], 3, 40, .ag [.sl true [], .i .i64 0, .i .i64 0]⟩),
  (96, ⟨.st [45, 3, 26], 3, 40, .ag [.sl true [], .i .i64 0, .i .i64 0]⟩),
  (107, ⟨.int .u64, 1, 8, .i .u64 0⟩),
  (112, ⟨.int .u32, 1, 4, .i .u32 0⟩)]
def yl : List (Nat × Ty) := [
  (3, .i .i64),
  (4, .b),
  (5, .u8),
  (9, .s),
  (22, .sl (.st (.pr (.i .u8) (.pr (.i .i64) (.pr (.i .i64) (.st (.pr (.i .i64) (.pr (.i .i64) (.pr .s .s))))))))),
  (26, .i .i64),
  (29, .sl (.st (.pr (.i .i64) (.pr (.i .i64) (.pr .s .s))))),
  (30, .st (.pr (.i .i64) (.pr (.i .i64) (.pr .s .s)))),
  (31, .st (.pr (.i .i64) (.pr (.i .i64) (.pr .s .s)))),
  (32, .st (.pr (.i .u8) (.pr (.i .i64) (.pr (.i .i64) (.st (.pr (.i .i64) (.pr (.i .i64) (.pr .s .s)))))))),
  (33, .st (.pr (.i .u8) (.pr (.i .i64) (.pr (.i .i64) (.st (.pr (.i .i64) (.pr (.i .i64) (.pr .s .s)))))))),
  (42, .sl (.st (.pr (.i .i64) (.pr (.i .i64) (.sl .u8))))),
  (45, .sl .u8),
  (46, .st (.pr (.i .i64) (.pr (.i .i64) (.sl .u8)))),
  (47, .st (.pr (.i .i64) (.pr (.i .i64) (.sl .u8)))),
  (51, .st (.pr (.i .i64) (.sl (.st (.pr (.i .i64) (.pr (.i .i64) (.sl .u8))))))),
  (52, .st (.pr (.i .i64) (.sl (.st (.pr (.i .i64) (.pr (.i .i64) (.sl .u8))))))),
  (64, .st (.pr (.i .i64) (.sl (.st (.pr (.i .i64) (.pr (.i .i64) (.sl .u8))))))),
  (65, .st (.pr (.i .i64) (.sl (.st (.pr (.i .i64) (.pr (.i .i64) (.sl .u8))))))),
  (71, .sl (.st (.pr (.i .i64) (.i .i64)))),
  (88, .st (.pr (.i .i64) (.i .i64))),
  (89, .st (.pr (.i .i64) (.i .i64))),
  (95, .st (.pr (.sl .u8) (.pr (.i .i64) (.i .i64)))),
  (96, .st (.pr (.sl .u8) (.pr (.i .i64) (.i .i64)))),
  (107, .i .u64),
  (112, .i .u32)]
def T : TT := tab tl
def Y : Nat → Option Ty := fun t => yl.lookup t
def holds : List Nat := [9, 10, 11, 12, 13, 14, 16, 18, 20, 21, 22, 23, 24, 25, 26, 27, 29, 31, 32, 33, 34, 36, 37, 38, 39, 40, 45, 46, 47, 48, 51, 52, 53, 58, 59, 64]
def mds : List (Nat × List Md) := [(10, [.io, .rd, .rd, .rd]), (11, [.io, .rd]), (12, [.io]), (13, [.io]), (14, [.io, .rd, .rd]), (16, [.io]), (21, [.ow, .rd, .rd]), (22, [.io, .rd]), (26, [.io, .rd]), (29, [.io]), (52, [.io]), (53, [.io, .rd]), (72, [.ow, .rd])]
def an : FuncId → An := fun f => { fr := true, hold := holds.contains f, md := (mds.lookup f).getD [] }
theorem tlok : tl.all (fun p => tiChk Try.prog T p.1 p.2) = true := by kernel_rfl
theorem tok : TOk Try.prog T ∧ ShOk T := tab_ok tlok
theorem mixed : Try.prog.follows .mixedOrders = true := by kernel_rfl
end Go.Proofs.Ytbncnkchedhnpaa.EVT
