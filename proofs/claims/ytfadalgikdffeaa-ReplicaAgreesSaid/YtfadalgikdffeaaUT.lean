/- The program's types (U). -/
import Derived.Test.YtfadalgikdffeaaTv12
import Derived.Test.YtfadalgikdffeaaChecked
import Derived.KernelRfl
set_option linter.unusedVariables false
set_option maxRecDepth 100000
namespace Go.Proofs.Ytfadalgikdffeaa.EVT
open Go.EV
def tl : List (Nat × TI) := [
  (3, ⟨.int .i64, 1, 8, .i .i64 0⟩),
  (4, ⟨.bool, 1, 1, .b false⟩),
  (5, ⟨.int .u8, 1, 1, .i .u8 0⟩),
  (9, ⟨.str, 1, 16, .s []⟩),
  (21, ⟨.int .i32, 1, 4, .i .i32 0⟩),
  (22, ⟨.sl 3, 1, 24, .sl true []⟩),
  (23, ⟨.st [3, 3, 3, 3, 3, 3, 22], 7, 72, .ag [.i .i64 0, .i .i64 0, .i .i64 0, .i .i64 0, .i .i64 0, .i .i64 0, .sl true []]⟩),
  (24, ⟨.st [3, 3, 3, 3, 3, 3, 22], 7, 72, .ag [.i .i64 0, .i .i64 0, .i .i64 0, .i .i64 0, .i .i64 0, .i .i64 0, .sl true []]⟩),
  (25, ⟨.sl 50, 1, 24, .sl true []⟩),
  (26, ⟨.st [24, 3, 25, 22], 10, 128, .ag [.ag [.i .i64 0, .i .i64 0, .i .i64 0, .i .i64 0, .i .i64 0, .i .i64 0, .sl true []], .i .i64 0, .sl true [], .sl true []]⟩),
  (27, ⟨.st [24, 3, 25, 22], 10, 128, .ag [.ag [.i .i64 0, .i .i64 0, .i .i64 0, .i .i64 0, .i .i64 0, .i .i64 0, .sl true []], .i .i64 0, .sl true [], .sl true []]⟩),
  (30, ⟨.int .i64, 1, 8, .i .i64 0⟩),
  (36, ⟨.st [3, 3, 3, 3, 3, 3, 3, 4, 25], 9, 88, .ag [.i .i64 0, .i .i64 0, .i .i64 0, .i .i64 0, .i .i64 0, .i .i64 0, .i .i64 0, .b false, .sl true []]⟩),
  (37, ⟨.st [3, 3, 3, 3, 3, 3, 3, 4, 25], 9, 88, .ag [.i .i64 0, .i .i64 0, .i .i64 0, .i .i64 0, .i .i64 0, .i .i64 0, .i .i64 0, .b false, .sl true []]⟩),
  (38, ⟨.st [3, 9, 37], 11, 112, .ag [.i .i64 0, .s [], .ag [.i .i64 0, .i .i64 0, .i .i64 0, .i .i64 0, .i .i64 0, .i .i64 0, .i .i64 0, .b false, .sl true []]]⟩),
  (39, ⟨.st [3, 9, 37], 11, 112, .ag [.i .i64 0, .s [], .ag [.i .i64 0, .i .i64 0, .i .i64 0, .i .i64 0, .i .i64 0, .i .i64 0, .i .i64 0, .b false, .sl true []]]⟩),
  (41, ⟨.sl 39, 1, 24, .sl true []⟩),
  (42, ⟨.sl 37, 1, 24, .sl true []⟩),
  (46, ⟨.sl 27, 1, 24, .sl true []⟩),
  (49, ⟨.st [3, 9], 2, 24, .ag [.i .i64 0, .s []]⟩),
  (50, ⟨.st [3, 9], 2, 24, .ag [.i .i64 0, .s []]⟩),
  (54, ⟨.sl 61, 1, 24, .sl true []⟩),
  (55, ⟨.st [46, 42, 3], 3, 56, .ag [.sl true [], .sl true [], .i .i64 0]⟩),
  (56, ⟨.st [46, 42, 3], 3, 56, .ag [.sl true [], .sl true [], .i .i64 0]⟩),
  (59, ⟨.sl 9, 1, 24, .sl true []⟩),
  (60, ⟨.st [3, 3, 3], 3, 24, .ag [.i .i64 0, .i .i64 0, .i .i64 0]⟩),
  (61, ⟨.st [3, 3, 3], 3, 24, .ag [.i .i64 0, .i .i64 0, .i .i64 0]⟩),
  (88, ⟨.pt 56, 1, 8, .np⟩),
  (93, ⟨.arr 7 4, 7, 7, .ar 1 [.b false, .b false, .b false, .b false, .b false, .b false, .b false]⟩)]
def yl : List (Nat × Ty) := [
  (3, .i .i64),
  (4, .b),
  (5, .u8),
  (9, .s),
  (21, .i .i32),
  (22, .sl (.i .i64)),
  (23, .st (.pr (.i .i64) (.pr (.i .i64) (.pr (.i .i64) (.pr (.i .i64) (.pr (.i .i64) (.pr (.i .i64) (.sl (.i .i64))))))))),
  (24, .st (.pr (.i .i64) (.pr (.i .i64) (.pr (.i .i64) (.pr (.i .i64) (.pr (.i .i64) (.pr (.i .i64) (.sl (.i .i64))))))))),
  (25, .sl (.st (.pr (.i .i64) .s))),
  (26, .st (.pr (.st (.pr (.i .i64) (.pr (.i .i64) (.pr (.i .i64) (.pr (.i .i64) (.pr (.i .i64) (.pr (.i .i64) (.sl (.i .i64))))))))) (.pr (.i .i64) (.pr (.sl (.st (.pr (.i .i64) .s))) (.sl (.i .i64)))))),
  (27, .st (.pr (.st (.pr (.i .i64) (.pr (.i .i64) (.pr (.i .i64) (.pr (.i .i64) (.pr (.i .i64) (.pr (.i .i64) (.sl (.i .i64))))))))) (.pr (.i .i64) (.pr (.sl (.st (.pr (.i .i64) .s))) (.sl (.i .i64)))))),
  (30, .i .i64),
  (36, .st (.pr (.i .i64) (.pr (.i .i64) (.pr (.i .i64) (.pr (.i .i64) (.pr (.i .i64) (.pr (.i .i64) (.pr (.i .i64) (.pr .b (.sl (.st (.pr (.i .i64) .s)))))))))))),
  (37, .st (.pr (.i .i64) (.pr (.i .i64) (.pr (.i .i64) (.pr (.i .i64) (.pr (.i .i64) (.pr (.i .i64) (.pr (.i .i64) (.pr .b (.sl (.st (.pr (.i .i64) .s)))))))))))),
  (38, .st (.pr (.i .i64) (.pr .s (.st (.pr (.i .i64) (.pr (.i .i64) (.pr (.i .i64) (.pr (.i .i64) (.pr (.i .i64) (.pr (.i .i64) (.pr (.i .i64) (.pr .b (.sl (.st (.pr (.i .i64) .s))))))))))))))),
  (39, .st (.pr (.i .i64) (.pr .s (.st (.pr (.i .i64) (.pr (.i .i64) (.pr (.i .i64) (.pr (.i .i64) (.pr (.i .i64) (.pr (.i .i64) (.pr (.i .i64) (.pr .b (.sl (.st (.pr (.i .i64) .s))))))))))))))),
  (41, .sl (.st (.pr (.i .i64) (.pr .s (.st (.pr (.i .i64) (.pr (.i .i64) (.pr (.i .i64) (.pr (.i .i64) (.pr (.i .i64) (.pr (.i .i64) (.pr (.i .i64) (.pr .b (.sl (.st (.pr (.i .i64) .s)))))))))))))))),
  (42, .sl (.st (.pr (.i .i64) (.pr (.i .i64) (.pr (.i .i64) (.pr (.i .i64) (.pr (.i .i64) (.pr (.i .i64) (.pr (.i .i64) (.pr .b (.sl (.st (.pr (.i .i64) .s))))))))))))),
  (46, .sl (.st (.pr (.st (.pr (.i .i64) (.pr (.i .i64) (.pr (.i .i64) (.pr (.i .i64) (.pr (.i .i64) (.pr (.i .i64) (.sl (.i .i64))))))))) (.pr (.i .i64) (.pr (.sl (.st (.pr (.i .i64) .s))) (.sl (.i .i64))))))),
  (49, .st (.pr (.i .i64) .s)),
  (50, .st (.pr (.i .i64) .s)),
  (54, .sl (.st (.pr (.i .i64) (.pr (.i .i64) (.i .i64))))),
  (55, .st (.pr (.sl (.st (.pr (.st (.pr (.i .i64) (.pr (.i .i64) (.pr (.i .i64) (.pr (.i .i64) (.pr (.i .i64) (.pr (.i .i64) (.sl (.i .i64))))))))) (.pr (.i .i64) (.pr (.sl (.st (.pr (.i .i64) .s))) (.sl (.i .i64))))))) (.pr (.sl (.st (.pr (.i .i64) (.pr (.i .i64) (.pr (.i .i64) (.pr (.i .i64) (.pr (.i .i64) (.pr (.i .i64) (.pr (.i .i64) (.pr .b (.sl (.st (.pr (.i .i64) .s))))))))))))) (.i .i64)))),
  (56, .st (.pr (.sl (.st (.pr (.st (.pr (.i .i64) (.pr (.i .i64) (.pr (.i .i64) (.pr (.i .i64) (.pr (.i .i64) (.pr (.i .i64) (.sl (.i .i64))))))))) (.pr (.i .i64) (.pr (.sl (.st (.pr (.i .i64) .s))) (.sl (.i .i64))))))) (.pr (.sl (.st (.pr (.i .i64) (.pr (.i .i64) (.pr (.i .i64) (.pr (.i .i64) (.pr (.i .i64) (.pr (.i .i64) (.pr (.i .i64) (.pr .b (.sl (.st (.pr (.i .i64) .s))))))))))))) (.i .i64)))),
  (59, .sl .s),
  (60, .st (.pr (.i .i64) (.pr (.i .i64) (.i .i64)))),
  (61, .st (.pr (.i .i64) (.pr (.i .i64) (.i .i64))))]
def T : TT := tab tl
def Y : Nat → Option Ty := fun t => yl.lookup t
def holds : List Nat := [9, 10, 15, 16, 17, 19, 20, 21, 22, 24, 25, 27, 29, 30, 39, 40, 42, 44, 45, 46, 48, 49, 50, 51, 56, 58, 59, 61]
def mds : List (Nat × List Md) := [(21, [.io, .rd]), (25, [.io, .rd]), (45, [.ow, .rd]), (48, [.ow, .rd]), (49, [.ow, .rd])]
def an : FuncId → An := fun f => { fr := true, hold := holds.contains f, md := (mds.lookup f).getD [] }
theorem tlok : tl.all (fun p => tiChk Try.prog T p.1 p.2) = true := by kernel_rfl
theorem tok : TOk Try.prog T ∧ ShOk T := tab_ok tlok
theorem mixed : Try.prog.follows .mixedOrders = true := by kernel_rfl
end Go.Proofs.Ytfadalgikdffeaa.EVT
