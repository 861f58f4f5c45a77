/- The program's types (U). -/
import Derived.Test.YtfadalgikdffeaaGreatTv12
import Derived.Test.YtfadalgikdffeaaGreatChecked
import Derived.KernelRfl
set_option linter.unusedVariables false
set_option maxRecDepth 100000
namespace Go.Proofs.YtfadalgikdffeaaGreat.EVT
open Go.EV
def tl : List (Nat × TI) := [
  (3, ⟨.int .i64, 1, 8, .i .i64 0⟩),
  (4, ⟨.bool, 1, 1, .b false⟩),
  (5, ⟨.int .u8, 1, 1, .i .u8 0⟩),
  (9, ⟨.str, 1, 16, .s []⟩),
  (21, ⟨.int .i32, 1, 4, .i .i32 0⟩),
  (22, ⟨.sl 3, 1, 24, .sl true []⟩),
  (23, ⟨.st [3, 3, 3, 3, 3, 3, 22], 7, 72, .ag [.i .i64 0, .i .i64 0, .i .i64 0, .i .i64 0, .i .i64 0, .i .i64 0, .sl true []]⟩),
  (24, ⟨.st [3, 3, 3, 3, 3, 3, 22], 7, 72, .ag [.i .i64 0, .i .i64 0, .i .i64 0, .i .i64 0, .i .i64 0, .i .i64 0, .sl true []]⟩),
  (25, ⟨.sl 55, 1, 24, .sl true []⟩),
  (26, ⟨.st [24, 3, 25, 22], 10, 128, .ag [.ag [.i .i64 0, .i .i64 0, .i .i64 0, .i .i64 0, .i .i64 0, .i .i64 0, .sl true []], .i .i64 0, .sl true [], .sl true []]⟩),
  (27, ⟨.st [24, 3, 25, 22], 10, 128, .ag [.ag [.i .i64 0, .i .i64 0, .i .i64 0, .i .i64 0, .i .i64 0, .i .i64 0, .sl true []], .i .i64 0, .sl true [], .sl true []]⟩),
  (28, ⟨.sl 37, 1, 24, .sl true []⟩),
  (31, ⟨.int .i64, 1, 8, .i .i64 0⟩),
  (34, ⟨.st [3, 3, 3, 3, 3, 3, 3, 4, 25], 9, 88, .ag [.i .i64 0, .i .i64 0, .i .i64 0, .i .i64 0, .i .i64 0, .i .i64 0, .i .i64 0, .b false, .sl true []]⟩),
  (35, ⟨.st [3, 3, 3, 3, 3, 3, 3, 4, 25], 9, 88, .ag [.i .i64 0, .i .i64 0, .i .i64 0, .i .i64 0, .i .i64 0, .i .i64 0, .i .i64 0, .b false, .sl true []]⟩),
  (36, ⟨.st [3, 9, 35], 11, 112, .ag [.i .i64 0, .s [], .ag [.i .i64 0, .i .i64 0, .i .i64 0, .i .i64 0, .i .i64 0, .i .i64 0, .i .i64 0, .b false, .sl true []]]⟩),
  (37, ⟨.st [3, 9, 35], 11, 112, .ag [.i .i64 0, .s [], .ag [.i .i64 0, .i .i64 0, .i .i64 0, .i .i64 0, .i .i64 0, .i .i64 0, .i .i64 0, .b false, .sl true []]]⟩),
  (38, ⟨.sl 35, 1, 24, .sl true []⟩),
  (49, ⟨.sl 9, 1, 24, .sl true []⟩),
  (54, ⟨.st [3, 9], 2, 24, .ag [.i .i64 0, .s []]⟩),
  (55, ⟨.st [3, 9], 2, 24, .ag [.i .i64 0, .s []]⟩),
  (58, ⟨.sl 27, 1, 24, .sl true []⟩),
  (85, ⟨.arr 7 4, 7, 7, .ar 1 [.b false, .b false, .b false, .b false, .b false, .b false, .b false]⟩),
  (97, ⟨.int .u64, 1, 8, .i .u64 0⟩),
  (99, ⟨.int .i64, 1, 8, .i .i64 0⟩),
  (106, ⟨.int .u32, 1, 4, .i .u32 0⟩),
  (108, ⟨.int .u64, 1, 8, .i .u64 0⟩),
  (109, ⟨.int .u64, 1, 8, .i .u64 0⟩)]
def yl : List (Nat × Ty) := [
  (3, .i .i64),
  (4, .b),
  (5, .u8),
  (9, .s),
  (21, .i .i32),
  (22, .sl (.i .i64)),
  (23, .st (.pr (.i .i64) (.pr (.i .i64) (.pr (.i .i64) (.pr (.i .i64) (.pr (.i .i64) (.pr (.i .i64) (.sl (.i .i64))))))))),
  (24, .st (.pr (.i .i64) (.pr (.i .i64) (.pr (.i .i64) (.pr (.i .i64) (.pr (.i .i64) (.pr (.i .i64) (.sl (.i .i64))))))))),
  (25, .sl (.st (.pr (.i .i64) .s))),
  (26, .st (.pr (.st (.pr (.i .i64) (.pr (.i .i64) (.pr (.i .i64) (.pr (.i .i64) (.pr (.i .i64) (.pr (.i .i64) (.sl (.i .i64))))))))) (.pr (.i .i64) (.pr (.sl (.st (.pr (.i .i64) .s))) (.sl (.i .i64)))))),
  (27, .st (.pr (.st (.pr (.i .i64) (.pr (.i .i64) (.pr (.i .i64) (.pr (.i .i64) (.pr (.i .i64) (.pr (.i .i64) (.sl (.i .i64))))))))) (.pr (.i .i64) (.pr (.sl (.st (.pr (.i .i64) .s))) (.sl (.i .i64)))))),
  (28, .sl (.st (.pr (.i .i64) (.pr .s (.st (.pr (.i .i64) (.pr (.i .i64) (.pr (.i .i64) (.pr (.i .i64) (.pr (.i .i64) (.pr (.i .i64) (.pr (.i .i64) (.pr .b (.sl (.st (.pr (.i .i64) .s)))))))))))))))),
  (31, .i .i64),
  (34, .st (.pr (.i .i64) (.pr (.i .i64) (.pr (.i .i64) (.pr (.i .i64) (.pr (.i .i64) (.pr (.i .i64) (.pr (.i .i64) (.pr .b (.sl (.st (.pr (.i .i64) .s)))))))))))),
  (35, .st (.pr (.i .i64) (.pr (.i .i64) (.pr (.i .i64) (.pr (.i .i64) (.pr (.i .i64) (.pr (.i .i64) (.pr (.i .i64) (.pr .b (.sl (.st (.pr (.i .i64) .s)))))))))))),
  (36, .st (.pr (.i .i64) (.pr .s (.st (.pr (.i .i64) (.pr (.i .i64) (.pr (.i .i64) (.pr (.i .i64) (.pr (.i .i64) (.pr (.i .i64) (.pr (.i .i64) (.pr .b (.sl (.st (.pr (.i .i64) .s))))))))))))))),
  (37, .st (.pr (.i .i64) (.pr .s (.st (.pr (.i .i64) (.pr (.i .i64) (.pr (.i .i64) (.pr (.i .i64) (.pr (.i .i64) (.pr (.i .i64) (.pr (.i .i64) (.pr .b (.sl (.st (.pr (.i .i64) .s))))))))))))))),
  (38, .sl (.st (.pr (.i .i64) (.pr (.i .i64) (.pr (.i .i64) (.pr (.i .i64) (.pr (.i .i64) (.pr (.i .i64) (.pr (.i .i64) (.pr .b (.sl (.st (.pr (.i .i64) .s))))))))))))),
  (49, .sl .s),
  (54, .st (.pr (.i .i64) .s)),
  (55, .st (.pr (.i .i64) .s)),
  (58, .sl (.st (.pr (.st (.pr (.i .i64) (.pr (.i .i64) (.pr (.i .i64) (.pr (.i .i64) (.pr (.i .i64) (.pr (.i .i64) (.sl (.i .i64))))))))) (.pr (.i .i64) (.pr (.sl (.st (.pr (.i .i64) .s))) (.sl (.i .i64))))))),
  (97, .i .u64),
  (99, .i .i64),
  (106, .i .u32),
  (108, .i .u64),
  (109, .i .u64)]
def T : TT := tab tl
def Y : Nat → Option Ty := fun t => yl.lookup t
def holds : List Nat := [8, 9, 10, 11, 13, 14, 15, 16, 18, 19, 21, 22, 28, 31, 33, 35, 36, 37, 38, 39, 40, 44, 45, 46, 48, 49, 51, 52, 54, 56, 61, 64, 66, 67, 69, 74, 77, 79]
def mds : List (Nat × List Md) := [(38, [.ow, .rd]), (45, [.ow, .rd]), (48, [.ow, .rd]), (49, [.ow, .rd]), (81, [.io]), (82, [.ow]), (84, [.io, .rd, .rd, .rd]), (86, [.io, .rd, .rd])]
def an : FuncId → An := fun f => { fr := true, hold := holds.contains f, md := (mds.lookup f).getD [] }
theorem tlok : tl.all (fun p => tiChk Tryz.prog T p.1 p.2) = true := by kernel_rfl
theorem tok : TOk Tryz.prog T ∧ ShOk T := tab_ok tlok
theorem mixed : Tryz.prog.follows .mixedOrders = true := by kernel_rfl
abbrev QS1 : Ty := .st (.pr (.st (.pr (.i .i64) (.pr (.i .i64) (.pr (.i .i64) (.pr (.i .i64) (.pr (.i .i64) (.pr (.i .i64) (.sl (.i .i64))))))))) (.pr (.i .i64) (.pr (.sl (.st (.pr (.i .i64) .s))) (.sl (.i .i64)))))
abbrev QS2 : Ty := .sl (.st (.pr (.i .i64) (.pr .s (.st (.pr (.i .i64) (.pr (.i .i64) (.pr (.i .i64) (.pr (.i .i64) (.pr (.i .i64) (.pr (.i .i64) (.pr (.i .i64) (.pr .b (.sl (.st (.pr (.i .i64) .s)))))))))))))))
abbrev QS3 : Ty := .st (.pr (.i .i64) (.pr .s (.st (.pr (.i .i64) (.pr (.i .i64) (.pr (.i .i64) (.pr (.i .i64) (.pr (.i .i64) (.pr (.i .i64) (.pr (.i .i64) (.pr .b (.sl (.st (.pr (.i .i64) .s))))))))))))))
abbrev QS4 : Ty := .sl (.st (.pr (.i .i64) (.pr (.i .i64) (.pr (.i .i64) (.pr (.i .i64) (.pr (.i .i64) (.pr (.i .i64) (.pr (.i .i64) (.pr .b (.sl (.st (.pr (.i .i64) .s))))))))))))
abbrev QS5 : Ty := .st (.pr (.i .i64) (.pr (.i .i64) (.pr (.i .i64) (.pr (.i .i64) (.pr (.i .i64) (.pr (.i .i64) (.pr (.i .i64) (.pr .b (.sl (.st (.pr (.i .i64) .s)))))))))))
abbrev QS6 : Ty := .st (.pr (.i .i64) (.pr (.i .i64) (.pr (.i .i64) (.pr (.i .i64) (.pr (.i .i64) (.pr (.i .i64) (.sl (.i .i64))))))))
abbrev QT1 : Type := Int × List UInt8 × Int × Int × Int × Int × Int × Int × Int × Bool × List (Int × List UInt8)
abbrev QT2 : Type := Int × Int × Int × Int × Int × Int × Int × Bool × List (Int × List UInt8)
abbrev QT3 : Type := Int × Int × Int × Int × Int × Int × List Int
abbrev QT4 : Type := Int × Int × Int × Int × Int × Int
abbrev QT5 : Type := Int × Int × List Int × Int × Int
abbrev QT6 : Type := Int × Int × Int × Int
end Go.Proofs.YtfadalgikdffeaaGreat.EVT
