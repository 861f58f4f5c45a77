/- The program's types, and which functions are read (chapter 40). -/
import Derived.Test.YtehjeifbgegabaaEv21
import Derived.Test.YtehjeifbgegabaaChecked
import Derived.KernelRfl
set_option linter.unusedVariables false
set_option maxRecDepth 100000
namespace Go.Proofs.Ytehjeifbgegabaa.EVT
open Go.EV
def tl : List (Nat × TI) := [
  (2, ⟨.int .i64, 1, 8, .i .i64 0⟩),
  (3, ⟨.int .i64, 1, 8, .i .i64 0⟩),
  (4, ⟨.bool, 1, 1, .b false⟩),
  (5, ⟨.int .u8, 1, 1, .i .u8 0⟩),
  (9, ⟨.str, 1, 16, .s []⟩),
  (22, ⟨.sl 3, 1, 24, .sl true []⟩),
  (23, ⟨.st [3, 3, 3, 3, 3, 3, 22], 7, 72, .ag [.i .i64 0, .i .i64 0, .i .i64 0, .i .i64 0, .i .i64 0, .i .i64 0, .sl true []]⟩),
  (24, ⟨.st [3, 3, 3, 3, 3, 3, 22], 7, 72, .ag [.i .i64 0, .i .i64 0, .i .i64 0, .i .i64 0, .i .i64 0, .i .i64 0, .sl true []]⟩),
  (26, ⟨.int .i64, 1, 8, .i .i64 0⟩),
  (32, ⟨.sl 75, 1, 24, .sl true []⟩),
  (33, ⟨.st [3, 3, 3, 3, 3, 3, 3, 4, 32], 9, 88, .ag [.i .i64 0, .i .i64 0, .i .i64 0, .i .i64 0, .i .i64 0, .i .i64 0, .i .i64 0, .b false, .sl true []]⟩),
  (34, ⟨.st [3, 3, 3, 3, 3, 3, 3, 4, 32], 9, 88, .ag [.i .i64 0, .i .i64 0, .i .i64 0, .i .i64 0, .i .i64 0, .i .i64 0, .i .i64 0, .b false, .sl true []]⟩),
  (35, ⟨.st [3, 3, 3, 3, 34], 13, 120, .ag [.i .i64 0, .i .i64 0, .i .i64 0, .i .i64 0, .ag [.i .i64 0, .i .i64 0, .i .i64 0, .i .i64 0, .i .i64 0, .i .i64 0, .i .i64 0, .b false, .sl true []]]⟩),
  (36, ⟨.st [3, 3, 3, 3, 34], 13, 120, .ag [.i .i64 0, .i .i64 0, .i .i64 0, .i .i64 0, .ag [.i .i64 0, .i .i64 0, .i .i64 0, .i .i64 0, .i .i64 0, .i .i64 0, .i .i64 0, .b false, .sl true []]]⟩),
  (37, ⟨.sl 34, 1, 24, .sl true []⟩),
  (44, ⟨.sl 24, 1, 24, .sl true []⟩),
  (46, ⟨.sl 5, 1, 24, .sl true []⟩),
  (47, ⟨.sl 50, 1, 24, .sl true []⟩),
  (48, ⟨.sl 53, 1, 24, .sl true []⟩),
  (49, ⟨.st [3, 3], 2, 16, .ag [.i .i64 0, .i .i64 0]⟩),
  (50, ⟨.st [3, 3], 2, 16, .ag [.i .i64 0, .i .i64 0]⟩),
  (52, ⟨.st [3, 3], 2, 16, .ag [.i .i64 0, .i .i64 0]⟩),
  (53, ⟨.st [3, 3], 2, 16, .ag [.i .i64 0, .i .i64 0]⟩),
  (56, ⟨.sl 36, 1, 24, .sl true []⟩),
  (60, ⟨.arr 3 24, 21, 216, .ar 7 [.ag [.i .i64 0, .i .i64 0, .i .i64 0, .i .i64 0, .i .i64 0, .i .i64 0, .sl true []], .ag [.i .i64 0, .i .i64 0, .i .i64 0, .i .i64 0, .i .i64 0, .i .i64 0, .sl true []], .ag [.i .i64 0, .i .i64 0, .i .i64 0, .i .i64 0, .i .i64 0, .i .i64 0, .sl true []]]⟩),
  (66, ⟨.arr 7 4, 7, 7, .ar 1 [.b false, .b false, .b false, .b false, .b false, .b false, .b false]⟩),
  (74, ⟨.st [3, 9], 2, 24, .ag [.i .i64 0, .s []]⟩),
  (75, ⟨.st [3, 9], 2, 24, .ag [.i .i64 0, .s []]⟩)]
def T : TT := tab tl
def an : FuncId → An := fun f => if f = 38 then { sp := true } else {}
def dom : List Nat := [3, 4, 7, 8, 9, 10, 11, 12, 13, 14, 15, 16, 20, 21, 22, 23, 24, 25, 26, 27, 28, 36, 37, 38, 44]
theorem tlok : tl.all (fun p => tiChk Try.prog T p.1 p.2) = true := by kernel_rfl
theorem tok : TOk Try.prog T ∧ ShOk T := tab_ok tlok
theorem domok : dom.all (fnChk Try.prog T an) = true := by kernel_rfl
theorem mixed : Try.prog.follows .mixedOrders = true := by kernel_rfl
def laT : List (Nat × Nat × La) := [
  (4, 6, { keep := [2, 3, 5, 6, 7, 8, 52, 53, 54, 4], roots := [2, 3, 5, 7, 8] }),
  (7, 3, { keep := [0, 1, 17], roots := [1] }),
  (11, 11, { keep := [1, 2, 62, 63, 64], roots := [1] }),
  (12, 8, { keep := [1, 2, 45, 46, 47], roots := [1] }),
  (13, 10, { keep := [1, 2, 3, 6, 8, 9, 35, 36], roots := [3, 6, 8, 31, 53], ad := [(9, [], 53, 9)] }),
  (16, 9, { keep := [2, 3, 4, 5, 6, 46, 47, 48], roots := [2, 3, 4, 5, 6, 4121] }),
  (16, 15, { keep := [4, 5, 56, 57], roots := [4, 5, 66], ad := [(5, [6], 66, 1)] }),
  (21, 4, { keep := [0, 1, 4, 12, 13] }),
  (44, 2, { keep := [0, 1, 4, 7, 8] })]
def nrm (f k : Nat) : St → Option St := match laT.find? (fun p => p.1 == f && p.2.1 == k) with
  | some p => nrmLa p.2.2
  | none => fun S => some S
theorem nrm_ok (f k : Nat) : NrmOk (nrm f k) := by
  unfold nrm
  split
  · exact nrmLa_ok _
  · exact nrm_id
noncomputable def fns : FuncId → Option Func := fnsOf Try.prog dom
/-- What a function answers, at a depth. -/
noncomputable def E : Nat → FuncId → List X → Option (X × List X) := evF T an nrm fns
theorem E_ok (k : Nat) : CallOk Try.prog (E k) := evF_ok mixed tok.1 tok.2 (List.all_eq_true.1 domok) nrm_ok k
theorem fns3 : fns 3 = some Try.f3 := by kernel_rfl
theorem fns4 : fns 4 = some Try.f4 := by kernel_rfl
theorem fns7 : fns 7 = some Try.f7 := by kernel_rfl
theorem fns8 : fns 8 = some Try.f8 := by kernel_rfl
theorem fns9 : fns 9 = some Try.f9 := by kernel_rfl
theorem fns10 : fns 10 = some Try.f10 := by kernel_rfl
theorem fns11 : fns 11 = some Try.f11 := by kernel_rfl
theorem fns12 : fns 12 = some Try.f12 := by kernel_rfl
theorem fns13 : fns 13 = some Try.f13 := by kernel_rfl
theorem fns14 : fns 14 = some Try.f14 := by kernel_rfl
theorem fns15 : fns 15 = some Try.f15 := by kernel_rfl
theorem fns16 : fns 16 = some Try.f16 := by kernel_rfl
theorem fns20 : fns 20 = some Try.f20 := by kernel_rfl
theorem fns21 : fns 21 = some Try.f21 := by kernel_rfl
theorem fns22 : fns 22 = some Try.f22 := by kernel_rfl
theorem fns23 : fns 23 = some Try.f23 := by kernel_rfl
theorem fns24 : fns 24 = some Try.f24 := by kernel_rfl
theorem fns25 : fns 25 = some Try.f25 := by kernel_rfl
theorem fns26 : fns 26 = some Try.f26 := by kernel_rfl
theorem fns27 : fns 27 = some Try.f27 := by kernel_rfl
theorem fns28 : fns 28 = some Try.f28 := by kernel_rfl
theorem fns36 : fns 36 = some Try.f36 := by kernel_rfl
theorem fns37 : fns 37 = some Try.f37 := by kernel_rfl
theorem fns38 : fns 38 = some Try.f38 := by kernel_rfl
theorem fns44 : fns 44 = some Try.f44 := by kernel_rfl
theorem T2 : T 2 = some ⟨.int .i64, 1, 8, .i .i64 0⟩ := by kernel_rfl
theorem T3 : T 3 = some ⟨.int .i64, 1, 8, .i .i64 0⟩ := by kernel_rfl
theorem T4 : T 4 = some ⟨.bool, 1, 1, .b false⟩ := by kernel_rfl
theorem T5 : T 5 = some ⟨.int .u8, 1, 1, .i .u8 0⟩ := by kernel_rfl
theorem T9 : T 9 = some ⟨.str, 1, 16, .s []⟩ := by kernel_rfl
theorem T22 : T 22 = some ⟨.sl 3, 1, 24, .sl true []⟩ := by kernel_rfl
theorem T23 : T 23 = some ⟨.st [3, 3, 3, 3, 3, 3, 22], 7, 72, .ag [.i .i64 0, .i .i64 0, .i .i64 0, .i .i64 0, .i .i64 0, .i .i64 0, .sl true []]⟩ := by kernel_rfl
theorem T24 : T 24 = some ⟨.st [3, 3, 3, 3, 3, 3, 22], 7, 72, .ag [.i .i64 0, .i .i64 0, .i .i64 0, .i .i64 0, .i .i64 0, .i .i64 0, .sl true []]⟩ := by kernel_rfl
theorem T26 : T 26 = some ⟨.int .i64, 1, 8, .i .i64 0⟩ := by kernel_rfl
theorem T32 : T 32 = some ⟨.sl 75, 1, 24, .sl true []⟩ := by kernel_rfl
theorem T33 : T 33 = some ⟨.st [3, 3, 3, 3, 3, 3, 3, 4, 32], 9, 88, .ag [.i .i64 0, .i .i64 0, .i .i64 0, .i .i64 0, .i .i64 0, .i .i64 0, .i .i64 0, .b false, .sl true []]⟩ := by kernel_rfl
theorem T34 : T 34 = some ⟨.st [3, 3, 3, 3, 3, 3, 3, 4, 32], 9, 88, .ag [.i .i64 0, .i .i64 0, .i .i64 0, .i .i64 0, .i .i64 0, .i .i64 0, .i .i64 0, .b false, .sl true []]⟩ := by kernel_rfl
theorem T35 : T 35 = some ⟨.st [3, 3, 3, 3, 34], 13, 120, .ag [.i .i64 0, .i .i64 0, .i .i64 0, .i .i64 0, .ag [.i .i64 0, .i .i64 0, .i .i64 0, .i .i64 0, .i .i64 0, .i .i64 0, .i .i64 0, .b false, .sl true []]]⟩ := by kernel_rfl
theorem T36 : T 36 = some ⟨.st [3, 3, 3, 3, 34], 13, 120, .ag [.i .i64 0, .i .i64 0, .i .i64 0, .i .i64 0, .ag [.i .i64 0, .i .i64 0, .i .i64 0, .i .i64 0, .i .i64 0, .i .i64 0, .i .i64 0, .b false, .sl true []]]⟩ := by kernel_rfl
theorem T37 : T 37 = some ⟨.sl 34, 1, 24, .sl true []⟩ := by kernel_rfl
theorem T44 : T 44 = some ⟨.sl 24, 1, 24, .sl true []⟩ := by kernel_rfl
theorem T46 : T 46 = some ⟨.sl 5, 1, 24, .sl true []⟩ := by kernel_rfl
theorem T47 : T 47 = some ⟨.sl 50, 1, 24, .sl true []⟩ := by kernel_rfl
theorem T48 : T 48 = some ⟨.sl 53, 1, 24, .sl true []⟩ := by kernel_rfl
theorem T49 : T 49 = some ⟨.st [3, 3], 2, 16, .ag [.i .i64 0, .i .i64 0]⟩ := by kernel_rfl
theorem T50 : T 50 = some ⟨.st [3, 3], 2, 16, .ag [.i .i64 0, .i .i64 0]⟩ := by kernel_rfl
theorem T52 : T 52 = some ⟨.st [3, 3], 2, 16, .ag [.i .i64 0, .i .i64 0]⟩ := by kernel_rfl
theorem T53 : T 53 = some ⟨.st [3, 3], 2, 16, .ag [.i .i64 0, .i .i64 0]⟩ := by kernel_rfl
theorem T56 : T 56 = some ⟨.sl 36, 1, 24, .sl true []⟩ := by kernel_rfl
theorem T60 : T 60 = some ⟨.arr 3 24, 21, 216, .ar 7 [.ag [.i .i64 0, .i .i64 0, .i .i64 0, .i .i64 0, .i .i64 0, .i .i64 0, .sl true []], .ag [.i .i64 0, .i .i64 0, .i .i64 0, .i .i64 0, .i .i64 0, .i .i64 0, .sl true []], .ag [.i .i64 0, .i .i64 0, .i .i64 0, .i .i64 0, .i .i64 0, .i .i64 0, .sl true []]]⟩ := by kernel_rfl
theorem T66 : T 66 = some ⟨.arr 7 4, 7, 7, .ar 1 [.b false, .b false, .b false, .b false, .b false, .b false, .b false]⟩ := by kernel_rfl
theorem T74 : T 74 = some ⟨.st [3, 9], 2, 24, .ag [.i .i64 0, .s []]⟩ := by kernel_rfl
theorem T75 : T 75 = some ⟨.st [3, 9], 2, 24, .ag [.i .i64 0, .s []]⟩ := by kernel_rfl
theorem nrm4_6 : nrm 4 6 = nrmLa { keep := [2, 3, 5, 6, 7, 8, 52, 53, 54, 4], roots := [2, 3, 5, 7, 8] } := by kernel_rfl
theorem nrm7_3 : nrm 7 3 = nrmLa { keep := [0, 1, 17], roots := [1] } := by kernel_rfl
theorem nrm11_11 : nrm 11 11 = nrmLa { keep := [1, 2, 62, 63, 64], roots := [1] } := by kernel_rfl
theorem nrm12_8 : nrm 12 8 = nrmLa { keep := [1, 2, 45, 46, 47], roots := [1] } := by kernel_rfl
theorem nrm13_10 : nrm 13 10 = nrmLa { keep := [1, 2, 3, 6, 8, 9, 35, 36], roots := [3, 6, 8, 31, 53], ad := [(9, [], 53, 9)] } := by kernel_rfl
theorem nrm16_9 : nrm 16 9 = nrmLa { keep := [2, 3, 4, 5, 6, 46, 47, 48], roots := [2, 3, 4, 5, 6, 4121] } := by kernel_rfl
theorem nrm16_15 : nrm 16 15 = nrmLa { keep := [4, 5, 56, 57], roots := [4, 5, 66], ad := [(5, [6], 66, 1)] } := by kernel_rfl
theorem nrm21_4 : nrm 21 4 = nrmLa { keep := [0, 1, 4, 12, 13] } := by kernel_rfl
theorem nrm44_2 : nrm 44 2 = nrmLa { keep := [0, 1, 4, 7, 8] } := by kernel_rfl
end Go.Proofs.Ytehjeifbgegabaa.EVT
