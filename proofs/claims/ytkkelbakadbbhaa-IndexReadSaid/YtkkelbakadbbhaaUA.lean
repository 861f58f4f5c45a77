/- What functions compute, as printed (U, part A). -/
import Derived.Test.YtkkelbakadbbhaaTv13
import Derived.Test.YtkkelbakadbbhaaUT
set_option linter.unusedVariables false
set_option maxRecDepth 100000
set_option maxHeartbeats 0
namespace Go.Proofs.Ytkkelbakadbbhaa.EVT
open Go Go.EV
/-! ### broker/pack.code -/
noncomputable def c88 : Code := Try.f88.body.getD .skip
noncomputable def env88 : Env := mkEnv []
abbrev ps88 : List PSh := [.d (.i .i64)]
abbrev D88 : Type := pairD (.ty (.i .u64)) (osOf ps88)
noncomputable def lv88 : Nat → Option (LI D88) := fun _ => none
noncomputable def g88 (a0 : Int) : Option (Int) :=
  some (IntKind.u64.wrap (↑(BitVec.ofInt IntKind.u64.bits (IntKind.u64.wrap (IntKind.u64.wrap a0 * 2 ^ min (Int.toNat 1) IntKind.u64.bits)) ^^^ BitVec.ofInt IntKind.u64.bits (IntKind.u64.wrap (a0.fdiv (2 ^ min (Int.toNat 63) IntKind.i64.bits)))).toNat : Int))
noncomputable def i88 : FI := ⟨ps88, .ty (.i .u64), fun a0 => g88 a0⟩
theorem e88 : (fun a => i88.G a) = fnEval T Y env88 an i88.ps i88.rs true Try.f88.results.toList lv88 c88 := by kernel_rfl
theorem lo88 : loopsOf c88 = [] := by kernel_rfl
theorem ll88 : LoopsOk T Y env88 an lv88 (finO T true ps88 (.ty (.i .u64)) Try.f88.results.toList) c88 := loopsOk_of (by rw [lo88]; exact trivial)
theorem k88 : FnOk Try.prog 88 i88 :=
  fn_ok (T := T) (Y := Y) (an := an) (env := env88) (fr := true) (lenv := lv88) mixed tok.1 tok.2 (envNil) (fn := Try.f88) (c := c88) (by kernel_rfl) (by kernel_rfl) (by kernel_rfl) ll88 (fun a => congrFun e88 a)
/-! ### broker/pack.add -/
noncomputable def c79 : Code := Try.f79.body.getD .skip
noncomputable def env79 : Env := mkEnv [(88, i88)]
abbrev ps79 : List PSh := [.ow (.ow 1 .u8), .d (.i .i64)]
abbrev D79 : Type := pairD (.ow 1 .u8) (osOf ps79)
def ns79_0 : NS := { slots := [(0, .hw 16), (5, .ty (.i .u64))], roots := [(16, .ar 1 .u8)], ad := [{ t := 0, path := [], g := 16, d := 1, τ := (.u8 : Ty) }] }
def ex79_0 : List (Nat × NS) := [(0, { slots := [(0, .hw 16), (5, .ty (.i .u64))], roots := [(16, .ar 1 .u8)] })]
noncomputable def st79_0 (ih : ((Int) × (List UInt8)) → Option (((Int) × (List UInt8)) ⊕ (List UInt8))) : ((Int) × (List UInt8)) → Option (((Int) × (List UInt8)) ⊕ (List UInt8)) := fun (t5, r16) =>
  cond (decide (t5 > 127))
    (cond (decide (0 ≤ IntKind.u8.wrap (↑(BitVec.ofInt IntKind.u8.bits (IntKind.u8.wrap (IntKind.u64.wrap (↑(BitVec.ofInt IntKind.u64.bits t5 &&& BitVec.ofInt IntKind.u64.bits 127).toNat : Int))) ||| BitVec.ofInt IntKind.u8.bits 128).toNat : Int)) && decide (IntKind.u8.wrap (↑(BitVec.ofInt IntKind.u8.bits (IntKind.u8.wrap (IntKind.u64.wrap (↑(BitVec.ofInt IntKind.u64.bits t5 &&& BitVec.ofInt IntKind.u64.bits 127).toNat : Int))) ||| BitVec.ofInt IntKind.u8.bits 128).toNat : Int) ≤ 255) && true)
      (cond (decide (r16.length + 1 ≤ 2147483647))
        (ih (t5.fdiv (2 ^ min (Int.toNat 7) IntKind.u64.bits), r16 ++ [UInt8.ofNat (IntKind.u8.wrap (↑(BitVec.ofInt IntKind.u8.bits (IntKind.u8.wrap (IntKind.u64.wrap (↑(BitVec.ofInt IntKind.u64.bits t5 &&& BitVec.ofInt IntKind.u64.bits 127).toNat : Int))) ||| BitVec.ofInt IntKind.u8.bits 128).toNat : Int)).toNat]))
        (none))
      (none))
    (some (Sum.inl (t5, r16)))
noncomputable def h79_0 : ((Int) × (List UInt8)) → Option (((Int) × (List UInt8)) ⊕ (List UInt8)) := loopN st79_0 fuel
noncomputable def l79_0 : LI D79 := ⟨ns79_0, ex79_0, h79_0⟩
noncomputable def lv79 : Nat → Option (LI D79) := fun q => if q = 2 then some l79_0 else (fun _ => none) q
noncomputable def g79 (a0 : List UInt8) (a1 : Int) : Option (List UInt8) :=
  Option.bind (g88 a1) fun v1 =>
  Option.bind (h79_0 (v1, a0)) fun v2 =>
  match v2 with
  | .inl x3 =>
    cond (decide (0 ≤ IntKind.u8.wrap x3.1) && decide (IntKind.u8.wrap x3.1 ≤ 255) && true)
      (cond (decide (List.length x3.2 + 1 ≤ 2147483647))
        (some (x3.2 ++ [UInt8.ofNat (IntKind.u8.wrap x3.1).toNat]))
        (none))
      (none)
  | .inr x3 =>
    some (x3)
noncomputable def i79 : FI := ⟨ps79, .ow 1 .u8, fun (a0, a1) => g79 a0 a1⟩
theorem s79_0 : st79_0 = stepEval T Y env79 an lv79 (finO T false ps79 (.ow 1 .u8) Try.f79.results.toList) (loopAt c79 0) ns79_0 ex79_0 := by kernel_rfl
theorem e79 : (fun a => i79.G a) = fnEval T Y env79 an i79.ps i79.rs false Try.f79.results.toList lv79 c79 := by kernel_rfl
theorem lo79 : loopsOf c79 = [loopAt c79 0] := by kernel_rfl
theorem ll79 : LoopsOk T Y env79 an lv79 (finO T false ps79 (.ow 1 .u8) Try.f79.results.toList) c79 := loopsOk_of (by rw [lo79]; exact ⟨loop1 (li := l79_0) (by kernel_rfl) (by kernel_rfl) s79_0, trivial⟩)
theorem k79 : FnOk Try.prog 79 i79 :=
  fn_ok (T := T) (Y := Y) (an := an) (env := env79) (fr := false) (lenv := lv79) mixed tok.1 tok.2 (envCons k88 (envNil)) (fn := Try.f79) (c := c79) (by kernel_rfl) (by kernel_rfl) (by kernel_rfl) ll79 (fun a => congrFun e79 a)
/-! ### broker/pack.owned -/
noncomputable def c80 : Code := Try.f80.body.getD .skip
noncomputable def env80 : Env := mkEnv []
abbrev ps80 : List PSh := [.d (.sl .u8), .d (.i .i64)]
abbrev D80 : Type := pairD (.ow 1 .u8) (osOf ps80)
noncomputable def lv80 : Nat → Option (LI D80) := fun _ => none
noncomputable def g80 (a0 : List UInt8) (a1 : Int) : Option (List UInt8) :=
  cond (decide (0 ≤ (↑a0.length : Int)) && decide ((↑a0.length : Int) ≤ IntKind.i64.wrap ((↑a0.length : Int) + a1)) && decide (IntKind.i64.wrap ((↑a0.length : Int) + a1) ≤ 2147483647))
    (cond (decide (0 + (List.replicate (↑a0.length : Int).toNat (UInt8.ofNat (Int.toNat 0))).length ≤ (List.replicate (↑a0.length : Int).toNat (UInt8.ofNat (Int.toNat 0))).length))
      (some (List.take 0 (List.replicate (↑a0.length : Int).toNat (UInt8.ofNat (Int.toNat 0))) ++ (List.take (List.replicate (↑a0.length : Int).toNat (UInt8.ofNat (Int.toNat 0))).length a0 ++ List.drop (0 + (List.take (List.replicate (↑a0.length : Int).toNat (UInt8.ofNat (Int.toNat 0))).length a0).length) (List.replicate (↑a0.length : Int).toNat (UInt8.ofNat (Int.toNat 0))))))
      (none))
    (none)
noncomputable def i80 : FI := ⟨ps80, .ow 1 .u8, fun (a0, a1) => g80 a0 a1⟩
theorem e80 : (fun a => i80.G a) = fnEval T Y env80 an i80.ps i80.rs false Try.f80.results.toList lv80 c80 := by kernel_rfl
theorem lo80 : loopsOf c80 = [] := by kernel_rfl
theorem ll80 : LoopsOk T Y env80 an lv80 (finO T false ps80 (.ow 1 .u8) Try.f80.results.toList) c80 := loopsOk_of (by rw [lo80]; exact trivial)
theorem k80 : FnOk Try.prog 80 i80 :=
  fn_ok (T := T) (Y := Y) (an := an) (env := env80) (fr := false) (lenv := lv80) mixed tok.1 tok.2 (envNil) (fn := Try.f80) (c := c80) (by kernel_rfl) (by kernel_rfl) (by kernel_rfl) ll80 (fun a => congrFun e80 a)
/-! ### broker/pack.PutNum -/
noncomputable def c64 : Code := Try.f64.body.getD .skip
noncomputable def env64 : Env := mkEnv [(80, i80), (79, i79)]
abbrev ps64 : List PSh := [.d (.sl .u8), .d (.i .i64)]
abbrev D64 : Type := pairD (.ow 1 .u8) (osOf ps64)
noncomputable def lv64 : Nat → Option (LI D64) := fun _ => none
noncomputable def g64 (a0 : List UInt8) (a1 : Int) : Option (List UInt8) :=
  Option.bind (g80 a0 10) fun v1 =>
  Option.bind (g79 v1 a1) fun v2 =>
  some (v2)
noncomputable def i64 : FI := ⟨ps64, .ow 1 .u8, fun (a0, a1) => g64 a0 a1⟩
theorem e64 : (fun a => i64.G a) = fnEval T Y env64 an i64.ps i64.rs false Try.f64.results.toList lv64 c64 := by kernel_rfl
theorem lo64 : loopsOf c64 = [] := by kernel_rfl
theorem ll64 : LoopsOk T Y env64 an lv64 (finO T false ps64 (.ow 1 .u8) Try.f64.results.toList) c64 := loopsOk_of (by rw [lo64]; exact trivial)
theorem k64 : FnOk Try.prog 64 i64 :=
  fn_ok (T := T) (Y := Y) (an := an) (env := env64) (fr := false) (lenv := lv64) mixed tok.1 tok.2 (envCons k80 (envCons k79 (envNil))) (fn := Try.f64) (c := c64) (by kernel_rfl) (by kernel_rfl) (by kernel_rfl) ll64 (fun a => congrFun e64 a)
/-! ### broker/pack.number -/
noncomputable def c84 : Code := Try.f84.body.getD .skip
noncomputable def env84 : Env := mkEnv []
abbrev ps84 : List PSh := [.d (.i .u64)]
abbrev D84 : Type := pairD (.ty (.i .i64)) (osOf ps84)
noncomputable def lv84 : Nat → Option (LI D84) := fun _ => none
noncomputable def g84 (a0 : Int) : Option (Int) :=
  cond (IntKind.u64.wrap (↑(BitVec.ofInt IntKind.u64.bits a0 &&& BitVec.ofInt IntKind.u64.bits 1).toNat : Int) == 1)
    (some (IntKind.i64.wrap (IntKind.i64.wrap (0 - IntKind.i64.wrap (a0.fdiv (2 ^ min (Int.toNat 1) IntKind.u64.bits))) - 1)))
    (some (IntKind.i64.wrap (a0.fdiv (2 ^ min (Int.toNat 1) IntKind.u64.bits))))
noncomputable def i84 : FI := ⟨ps84, .ty (.i .i64), fun a0 => g84 a0⟩
theorem e84 : (fun a => i84.G a) = fnEval T Y env84 an i84.ps i84.rs true Try.f84.results.toList lv84 c84 := by kernel_rfl
theorem lo84 : loopsOf c84 = [] := by kernel_rfl
theorem ll84 : LoopsOk T Y env84 an lv84 (finO T true ps84 (.ty (.i .i64)) Try.f84.results.toList) c84 := loopsOk_of (by rw [lo84]; exact trivial)
theorem k84 : FnOk Try.prog 84 i84 :=
  fn_ok (T := T) (Y := Y) (an := an) (env := env84) (fr := true) (lenv := lv84) mixed tok.1 tok.2 (envNil) (fn := Try.f84) (c := c84) (by kernel_rfl) (by kernel_rfl) (by kernel_rfl) ll84 (fun a => congrFun e84 a)
/-! ### broker/pack.Num -/
noncomputable def c71 : Code := Try.f71.body.getD .skip
noncomputable def env71 : Env := mkEnv [(84, i84)]
abbrev ps71 : List PSh := [.d (.sl .u8), .d (.i .i64)]
abbrev D71 : Type := pairD (.tup (.pr (.ty (.i .i64)) (.pr (.ty (.i .i64)) (.ty (.i .i64))))) (osOf ps71)
def ns71_0 : NS := { slots := [(0, .ty (.sl .u8)), (1, .ty (.i .i64)), (7, .ty (.i .u64)), (8, .ty (.i .i64))], roots := [] }
def ex71_0 : List (Nat × NS) := []
noncomputable def st71_0 (ih : ((List UInt8 × Int × Int × Int) × (Unit)) → Option ((Int × Int × Int))) : ((List UInt8 × Int × Int × Int) × (Unit)) → Option ((Int × Int × Int)) := fun ((t0, t1, t7, t8), ()) =>
  cond (IntKind.i64.wrap (t1 + t8) == (↑t0.length : Int))
    (some ((0, 0, 3)))
    (cond (decide (0 ≤ IntKind.i64.wrap (t1 + t8)) && decide (IntKind.i64.wrap (t1 + t8) < (↑t0.length : Int)))
      (cond (t8 == 9)
        (cond (decide ((↑(t0.getD (IntKind.i64.wrap (t1 + t8)).toNat 0).toNat : Int) > 1))
          (some ((0, 0, 2)))
          (cond (decide (t8 > 0))
            (cond ((↑(t0.getD (IntKind.i64.wrap (t1 + t8)).toNat 0).toNat : Int) == 0)
              (some ((0, 0, 2)))
              (cond (!decide (IntKind.i64.wrap (7 * t8) < 0))
                (cond (decide ((↑(t0.getD (IntKind.i64.wrap (t1 + t8)).toNat 0).toNat : Int) < 128))
                  (Option.bind (g84 (IntKind.u64.wrap (↑(BitVec.ofInt IntKind.u64.bits t7 ||| BitVec.ofInt IntKind.u64.bits (IntKind.u64.wrap (IntKind.u64.wrap (IntKind.u8.wrap (↑(BitVec.ofInt IntKind.u8.bits (↑(t0.getD (IntKind.i64.wrap (t1 + t8)).toNat 0).toNat : Int) &&& BitVec.ofInt IntKind.u8.bits 127).toNat : Int)) * 2 ^ min (IntKind.i64.wrap (7 * t8)).toNat IntKind.u64.bits))).toNat : Int))) fun v1 =>
                  some ((v1, IntKind.i64.wrap (IntKind.i64.wrap (t1 + t8) + 1), 0)))
                  (ih ((t0, t1, IntKind.u64.wrap (↑(BitVec.ofInt IntKind.u64.bits t7 ||| BitVec.ofInt IntKind.u64.bits (IntKind.u64.wrap (IntKind.u64.wrap (IntKind.u8.wrap (↑(BitVec.ofInt IntKind.u8.bits (↑(t0.getD (IntKind.i64.wrap (t1 + t8)).toNat 0).toNat : Int) &&& BitVec.ofInt IntKind.u8.bits 127).toNat : Int)) * 2 ^ min (IntKind.i64.wrap (7 * t8)).toNat IntKind.u64.bits))).toNat : Int), IntKind.i64.wrap (t8 + 1)), ())))
                (none)))
            (cond (!decide (IntKind.i64.wrap (7 * t8) < 0))
              (cond (decide ((↑(t0.getD (IntKind.i64.wrap (t1 + t8)).toNat 0).toNat : Int) < 128))
                (Option.bind (g84 (IntKind.u64.wrap (↑(BitVec.ofInt IntKind.u64.bits t7 ||| BitVec.ofInt IntKind.u64.bits (IntKind.u64.wrap (IntKind.u64.wrap (IntKind.u8.wrap (↑(BitVec.ofInt IntKind.u8.bits (↑(t0.getD (IntKind.i64.wrap (t1 + t8)).toNat 0).toNat : Int) &&& BitVec.ofInt IntKind.u8.bits 127).toNat : Int)) * 2 ^ min (IntKind.i64.wrap (7 * t8)).toNat IntKind.u64.bits))).toNat : Int))) fun v2 =>
                some ((v2, IntKind.i64.wrap (IntKind.i64.wrap (t1 + t8) + 1), 0)))
                (ih ((t0, t1, IntKind.u64.wrap (↑(BitVec.ofInt IntKind.u64.bits t7 ||| BitVec.ofInt IntKind.u64.bits (IntKind.u64.wrap (IntKind.u64.wrap (IntKind.u8.wrap (↑(BitVec.ofInt IntKind.u8.bits (↑(t0.getD (IntKind.i64.wrap (t1 + t8)).toNat 0).toNat : Int) &&& BitVec.ofInt IntKind.u8.bits 127).toNat : Int)) * 2 ^ min (IntKind.i64.wrap (7 * t8)).toNat IntKind.u64.bits))).toNat : Int), IntKind.i64.wrap (t8 + 1)), ())))
              (none))))
        (cond (decide (t8 > 0))
          (cond ((↑(t0.getD (IntKind.i64.wrap (t1 + t8)).toNat 0).toNat : Int) == 0)
            (some ((0, 0, 2)))
            (cond (!decide (IntKind.i64.wrap (7 * t8) < 0))
              (cond (decide ((↑(t0.getD (IntKind.i64.wrap (t1 + t8)).toNat 0).toNat : Int) < 128))
                (Option.bind (g84 (IntKind.u64.wrap (↑(BitVec.ofInt IntKind.u64.bits t7 ||| BitVec.ofInt IntKind.u64.bits (IntKind.u64.wrap (IntKind.u64.wrap (IntKind.u8.wrap (↑(BitVec.ofInt IntKind.u8.bits (↑(t0.getD (IntKind.i64.wrap (t1 + t8)).toNat 0).toNat : Int) &&& BitVec.ofInt IntKind.u8.bits 127).toNat : Int)) * 2 ^ min (IntKind.i64.wrap (7 * t8)).toNat IntKind.u64.bits))).toNat : Int))) fun v3 =>
                some ((v3, IntKind.i64.wrap (IntKind.i64.wrap (t1 + t8) + 1), 0)))
                (ih ((t0, t1, IntKind.u64.wrap (↑(BitVec.ofInt IntKind.u64.bits t7 ||| BitVec.ofInt IntKind.u64.bits (IntKind.u64.wrap (IntKind.u64.wrap (IntKind.u8.wrap (↑(BitVec.ofInt IntKind.u8.bits (↑(t0.getD (IntKind.i64.wrap (t1 + t8)).toNat 0).toNat : Int) &&& BitVec.ofInt IntKind.u8.bits 127).toNat : Int)) * 2 ^ min (IntKind.i64.wrap (7 * t8)).toNat IntKind.u64.bits))).toNat : Int), IntKind.i64.wrap (t8 + 1)), ())))
              (none)))
          (cond (!decide (IntKind.i64.wrap (7 * t8) < 0))
            (cond (decide ((↑(t0.getD (IntKind.i64.wrap (t1 + t8)).toNat 0).toNat : Int) < 128))
              (Option.bind (g84 (IntKind.u64.wrap (↑(BitVec.ofInt IntKind.u64.bits t7 ||| BitVec.ofInt IntKind.u64.bits (IntKind.u64.wrap (IntKind.u64.wrap (IntKind.u8.wrap (↑(BitVec.ofInt IntKind.u8.bits (↑(t0.getD (IntKind.i64.wrap (t1 + t8)).toNat 0).toNat : Int) &&& BitVec.ofInt IntKind.u8.bits 127).toNat : Int)) * 2 ^ min (IntKind.i64.wrap (7 * t8)).toNat IntKind.u64.bits))).toNat : Int))) fun v4 =>
              some ((v4, IntKind.i64.wrap (IntKind.i64.wrap (t1 + t8) + 1), 0)))
              (ih ((t0, t1, IntKind.u64.wrap (↑(BitVec.ofInt IntKind.u64.bits t7 ||| BitVec.ofInt IntKind.u64.bits (IntKind.u64.wrap (IntKind.u64.wrap (IntKind.u8.wrap (↑(BitVec.ofInt IntKind.u8.bits (↑(t0.getD (IntKind.i64.wrap (t1 + t8)).toNat 0).toNat : Int) &&& BitVec.ofInt IntKind.u8.bits 127).toNat : Int)) * 2 ^ min (IntKind.i64.wrap (7 * t8)).toNat IntKind.u64.bits))).toNat : Int), IntKind.i64.wrap (t8 + 1)), ())))
            (none))))
      (none))
noncomputable def h71_0 : ((List UInt8 × Int × Int × Int) × (Unit)) → Option ((Int × Int × Int)) := loopN st71_0 fuel
noncomputable def l71_0 : LI D71 := ⟨ns71_0, ex71_0, h71_0⟩
noncomputable def lv71 : Nat → Option (LI D71) := fun q => if q = 6 then some l71_0 else (fun _ => none) q
noncomputable def g71 (a0 : List UInt8) (a1 : Int) : Option (Int × Int × Int) :=
  cond (decide (a1 < 0))
    (some ((0, 0, 1)))
    (cond (decide (a1 > (↑a0.length : Int)))
      (some ((0, 0, 1)))
      (Option.bind (h71_0 ((a0, a1, 0, 0), ())) fun v1 =>
      some (v1)))
noncomputable def i71 : FI := ⟨ps71, .tup (.pr (.ty (.i .i64)) (.pr (.ty (.i .i64)) (.ty (.i .i64)))), fun (a0, a1) => g71 a0 a1⟩
theorem s71_0 : st71_0 = stepEval T Y env71 an lv71 (finO T true ps71 (.tup (.pr (.ty (.i .i64)) (.pr (.ty (.i .i64)) (.ty (.i .i64))))) Try.f71.results.toList) (loopAt c71 0) ns71_0 ex71_0 := by kernel_rfl
theorem e71 : (fun a => i71.G a) = fnEval T Y env71 an i71.ps i71.rs true Try.f71.results.toList lv71 c71 := by kernel_rfl
theorem lo71 : loopsOf c71 = [loopAt c71 0] := by kernel_rfl
theorem ll71 : LoopsOk T Y env71 an lv71 (finO T true ps71 (.tup (.pr (.ty (.i .i64)) (.pr (.ty (.i .i64)) (.ty (.i .i64))))) Try.f71.results.toList) c71 := loopsOk_of (by rw [lo71]; exact ⟨loop1 (li := l71_0) (by kernel_rfl) (by kernel_rfl) s71_0, trivial⟩)
theorem k71 : FnOk Try.prog 71 i71 :=
  fn_ok (T := T) (Y := Y) (an := an) (env := env71) (fr := true) (lenv := lv71) mixed tok.1 tok.2 (envCons k84 (envNil)) (fn := Try.f71) (c := c71) (by kernel_rfl) (by kernel_rfl) (by kernel_rfl) ll71 (fun a => congrFun e71 a)
/-! ### broker/pack.PutText -/
noncomputable def c66 : Code := Try.f66.body.getD .skip
noncomputable def env66 : Env := mkEnv [(80, i80), (79, i79)]
abbrev ps66 : List PSh := [.d (.sl .u8), .d .s]
abbrev D66 : Type := pairD (.ow 1 .u8) (osOf ps66)
noncomputable def lv66 : Nat → Option (LI D66) := fun _ => none
noncomputable def g66 (a0 : List UInt8) (a1 : List UInt8) : Option (List UInt8) :=
  Option.bind (g80 a0 (IntKind.i64.wrap (10 + (↑a1.length : Int)))) fun v1 =>
  Option.bind (g79 v1 (↑a1.length : Int)) fun v2 =>
  cond (decide (List.length v2 + a1.length ≤ 2147483647))
    (some (v2 ++ a1))
    (none)
noncomputable def i66 : FI := ⟨ps66, .ow 1 .u8, fun (a0, a1) => g66 a0 a1⟩
theorem e66 : (fun a => i66.G a) = fnEval T Y env66 an i66.ps i66.rs false Try.f66.results.toList lv66 c66 := by kernel_rfl
theorem lo66 : loopsOf c66 = [] := by kernel_rfl
theorem ll66 : LoopsOk T Y env66 an lv66 (finO T false ps66 (.ow 1 .u8) Try.f66.results.toList) c66 := loopsOk_of (by rw [lo66]; exact trivial)
theorem k66 : FnOk Try.prog 66 i66 :=
  fn_ok (T := T) (Y := Y) (an := an) (env := env66) (fr := false) (lenv := lv66) mixed tok.1 tok.2 (envCons k80 (envCons k79 (envNil))) (fn := Try.f66) (c := c66) (by kernel_rfl) (by kernel_rfl) (by kernel_rfl) ll66 (fun a => congrFun e66 a)
/-! ### broker/pack.Text -/
noncomputable def c72 : Code := Try.f72.body.getD .skip
noncomputable def env72 : Env := mkEnv [(71, i71)]
abbrev ps72 : List PSh := [.d (.sl .u8), .d (.i .i64), .d (.i .i64)]
abbrev D72 : Type := pairD (.tup (.pr (.ty .s) (.pr (.ty (.i .i64)) (.ty (.i .i64))))) (osOf ps72)
noncomputable def lv72 : Nat → Option (LI D72) := fun _ => none
noncomputable def g72 (a0 : List UInt8) (a1 : Int) (a2 : Int) : Option (List UInt8 × Int × Int) :=
  Option.bind (g71 a0 a1) fun v1 =>
  cond (v1.2.2 != 0)
    (some (([], 0, v1.2.2)))
    (cond (decide (v1.1 < 0))
      (some (([], 0, 2)))
      (cond (decide (v1.1 > a2))
        (some (([], 0, 5)))
        (cond (decide (v1.1 > IntKind.i64.wrap ((↑a0.length : Int) - v1.2.1)))
          (some (([], 0, 3)))
          (cond (decide (0 ≤ IntKind.i64.wrap (v1.2.1 + v1.1)) && decide (IntKind.i64.wrap (v1.2.1 + v1.1) ≤ (↑a0.length : Int)) && (decide (0 ≤ v1.2.1) && decide (v1.2.1 ≤ IntKind.i64.wrap (v1.2.1 + v1.1))) && decide (IntKind.i64.wrap (v1.2.1 + v1.1) = (↑(IntKind.i64.wrap (v1.2.1 + v1.1)).toNat : Int)))
            (some ((List.drop (Int.toNat v1.2.1) (List.take (IntKind.i64.wrap (v1.2.1 + v1.1)).toNat a0), IntKind.i64.wrap (v1.2.1 + v1.1), 0)))
            (none)))))
noncomputable def i72 : FI := ⟨ps72, .tup (.pr (.ty .s) (.pr (.ty (.i .i64)) (.ty (.i .i64)))), fun (a0, a1, a2) => g72 a0 a1 a2⟩
theorem e72 : (fun a => i72.G a) = fnEval T Y env72 an i72.ps i72.rs true Try.f72.results.toList lv72 c72 := by kernel_rfl
theorem lo72 : loopsOf c72 = [] := by kernel_rfl
theorem ll72 : LoopsOk T Y env72 an lv72 (finO T true ps72 (.tup (.pr (.ty .s) (.pr (.ty (.i .i64)) (.ty (.i .i64))))) Try.f72.results.toList) c72 := loopsOk_of (by rw [lo72]; exact trivial)
theorem k72 : FnOk Try.prog 72 i72 :=
  fn_ok (T := T) (Y := Y) (an := an) (env := env72) (fr := true) (lenv := lv72) mixed tok.1 tok.2 (envCons k71 (envNil)) (fn := Try.f72) (c := c72) (by kernel_rfl) (by kernel_rfl) (by kernel_rfl) ll72 (fun a => congrFun e72 a)
/-! ### broker/brokerref03.code -/
noncomputable def c82 : Code := Try.f82.body.getD .skip
noncomputable def env82 : Env := mkEnv []
abbrev ps82 : List PSh := [.d (.i .i64)]
abbrev D82 : Type := pairD (.ty (.i .u64)) (osOf ps82)
noncomputable def lv82 : Nat → Option (LI D82) := fun _ => none
noncomputable def g82 (a0 : Int) : Option (Int) :=
  cond (decide (a0 ≥ 0))
    (some (IntKind.u64.wrap (IntKind.u64.wrap a0 * 2)))
    (some (IntKind.u64.wrap (IntKind.u64.wrap (IntKind.u64.wrap (IntKind.i64.wrap (0 - IntKind.i64.wrap (a0 + 1))) * 2) + 1)))
noncomputable def i82 : FI := ⟨ps82, .ty (.i .u64), fun a0 => g82 a0⟩
theorem e82 : (fun a => i82.G a) = fnEval T Y env82 an i82.ps i82.rs true Try.f82.results.toList lv82 c82 := by kernel_rfl
theorem lo82 : loopsOf c82 = [] := by kernel_rfl
theorem ll82 : LoopsOk T Y env82 an lv82 (finO T true ps82 (.ty (.i .u64)) Try.f82.results.toList) c82 := loopsOk_of (by rw [lo82]; exact trivial)
theorem k82 : FnOk Try.prog 82 i82 :=
  fn_ok (T := T) (Y := Y) (an := an) (env := env82) (fr := true) (lenv := lv82) mixed tok.1 tok.2 (envNil) (fn := Try.f82) (c := c82) (by kernel_rfl) (by kernel_rfl) (by kernel_rfl) ll82 (fun a => congrFun e82 a)
/-! ### broker/brokerref03.PutNum -/
noncomputable def c67 : Code := Try.f67.body.getD .skip
noncomputable def env67 : Env := mkEnv [(82, i82)]
abbrev ps67 : List PSh := [.d (.sl .u8), .d (.i .i64)]
abbrev D67 : Type := pairD (.ow 1 .u8) (osOf ps67)
def ns67_0 : NS := { slots := [(5, .hw 20), (6, .ty (.i .u64))], roots := [(20, .ar 1 .u8)], ad := [{ t := 5, path := [], g := 20, d := 1, τ := (.u8 : Ty) }] }
def ex67_0 : List (Nat × NS) := [(0, { slots := [(5, .hw 20), (6, .ty (.i .u64))], roots := [(20, .ar 1 .u8)] })]
noncomputable def st67_0 (ih : ((Int) × (List UInt8)) → Option (((Int) × (List UInt8)) ⊕ (List UInt8))) : ((Int) × (List UInt8)) → Option (((Int) × (List UInt8)) ⊕ (List UInt8)) := fun (t6, r20) =>
  cond (decide (t6 ≥ 128))
    (cond (decide (0 ≤ IntKind.u8.wrap (IntKind.u8.wrap (t6.tmod 128) + 128)) && decide (IntKind.u8.wrap (IntKind.u8.wrap (t6.tmod 128) + 128) ≤ 255) && true)
      (cond (decide (r20.length + 1 ≤ 2147483647))
        (ih (IntKind.u64.wrap (t6.tdiv 128), r20 ++ [UInt8.ofNat (IntKind.u8.wrap (IntKind.u8.wrap (t6.tmod 128) + 128)).toNat]))
        (none))
      (none))
    (some (Sum.inl (t6, r20)))
noncomputable def h67_0 : ((Int) × (List UInt8)) → Option (((Int) × (List UInt8)) ⊕ (List UInt8)) := loopN st67_0 fuel
noncomputable def l67_0 : LI D67 := ⟨ns67_0, ex67_0, h67_0⟩
noncomputable def lv67 : Nat → Option (LI D67) := fun q => if q = 3 then some l67_0 else (fun _ => none) q
noncomputable def g67 (a0 : List UInt8) (a1 : Int) : Option (List UInt8) :=
  cond (decide (0 + a0.length ≤ 2147483647))
    (Option.bind (g82 a1) fun v1 =>
    Option.bind (h67_0 (v1, [] ++ a0)) fun v2 =>
    match v2 with
    | .inl x3 =>
      cond (decide (0 ≤ IntKind.u8.wrap x3.1) && decide (IntKind.u8.wrap x3.1 ≤ 255) && true)
        (cond (decide (List.length x3.2 + 1 ≤ 2147483647))
          (some (x3.2 ++ [UInt8.ofNat (IntKind.u8.wrap x3.1).toNat]))
          (none))
        (none)
    | .inr x3 =>
      some (x3))
    (none)
noncomputable def i67 : FI := ⟨ps67, .ow 1 .u8, fun (a0, a1) => g67 a0 a1⟩
theorem s67_0 : st67_0 = stepEval T Y env67 an lv67 (finO T false ps67 (.ow 1 .u8) Try.f67.results.toList) (loopAt c67 0) ns67_0 ex67_0 := by kernel_rfl
theorem e67 : (fun a => i67.G a) = fnEval T Y env67 an i67.ps i67.rs false Try.f67.results.toList lv67 c67 := by kernel_rfl
theorem lo67 : loopsOf c67 = [loopAt c67 0] := by kernel_rfl
theorem ll67 : LoopsOk T Y env67 an lv67 (finO T false ps67 (.ow 1 .u8) Try.f67.results.toList) c67 := loopsOk_of (by rw [lo67]; exact ⟨loop1 (li := l67_0) (by kernel_rfl) (by kernel_rfl) s67_0, trivial⟩)
theorem k67 : FnOk Try.prog 67 i67 :=
  fn_ok (T := T) (Y := Y) (an := an) (env := env67) (fr := false) (lenv := lv67) mixed tok.1 tok.2 (envCons k82 (envNil)) (fn := Try.f67) (c := c67) (by kernel_rfl) (by kernel_rfl) (by kernel_rfl) ll67 (fun a => congrFun e67 a)
/-! ### broker/brokerref03.number -/
noncomputable def c89 : Code := Try.f89.body.getD .skip
noncomputable def env89 : Env := mkEnv []
abbrev ps89 : List PSh := [.d (.i .u64)]
abbrev D89 : Type := pairD (.ty (.i .i64)) (osOf ps89)
noncomputable def lv89 : Nat → Option (LI D89) := fun _ => none
noncomputable def g89 (a0 : Int) : Option (Int) :=
  cond (a0.tmod 2 == 0)
    (some (IntKind.i64.wrap (IntKind.u64.wrap (a0.tdiv 2))))
    (some (IntKind.i64.wrap (IntKind.i64.wrap (0 - IntKind.i64.wrap (IntKind.u64.wrap (a0.tdiv 2))) - 1)))
noncomputable def i89 : FI := ⟨ps89, .ty (.i .i64), fun a0 => g89 a0⟩
theorem e89 : (fun a => i89.G a) = fnEval T Y env89 an i89.ps i89.rs true Try.f89.results.toList lv89 c89 := by kernel_rfl
theorem lo89 : loopsOf c89 = [] := by kernel_rfl
theorem ll89 : LoopsOk T Y env89 an lv89 (finO T true ps89 (.ty (.i .i64)) Try.f89.results.toList) c89 := loopsOk_of (by rw [lo89]; exact trivial)
theorem k89 : FnOk Try.prog 89 i89 :=
  fn_ok (T := T) (Y := Y) (an := an) (env := env89) (fr := true) (lenv := lv89) mixed tok.1 tok.2 (envNil) (fn := Try.f89) (c := c89) (by kernel_rfl) (by kernel_rfl) (by kernel_rfl) ll89 (fun a => congrFun e89 a)
/-! ### broker/brokerref03.Num -/
noncomputable def c86 : Code := Try.f86.body.getD .skip
noncomputable def env86 : Env := mkEnv [(89, i89)]
abbrev ps86 : List PSh := [.d (.sl .u8), .d (.i .i64)]
abbrev D86 : Type := pairD (.tup (.pr (.ty (.i .i64)) (.pr (.ty (.i .i64)) (.ty (.i .i64))))) (osOf ps86)
def ns86_0 : NS := { slots := [(0, .ty (.sl .u8)), (1, .ty (.i .i64)), (7, .ty (.i .u64)), (8, .ty (.i .u64)), (9, .ty (.i .i64))], roots := [] }
def ex86_0 : List (Nat × NS) := [(0, { slots := [], roots := [] })]
noncomputable def st86_0 (ih : ((List UInt8 × Int × Int × Int × Int) × (Unit)) → Option (((Unit) × (Unit)) ⊕ ((Int × Int × Int)))) : ((List UInt8 × Int × Int × Int × Int) × (Unit)) → Option (((Unit) × (Unit)) ⊕ ((Int × Int × Int))) := fun ((t0, t1, t7, t8, t9), ()) =>
  cond (decide (t9 < 10))
    (cond (decide (t9 ≥ IntKind.i64.wrap ((↑t0.length : Int) - t1)))
      (some (Sum.inr (0, 0, 3)))
      (cond (decide (0 ≤ IntKind.i64.wrap (t1 + t9)) && decide (IntKind.i64.wrap (t1 + t9) < (↑t0.length : Int)))
        (cond (t9 == 9)
          (cond ((↑(t0.getD (IntKind.i64.wrap (t1 + t9)).toNat 0).toNat : Int) != 1)
            (some (Sum.inr (0, 0, 2)))
            (cond (decide (t9 > 0))
              (cond ((↑(t0.getD (IntKind.i64.wrap (t1 + t9)).toNat 0).toNat : Int) == 0)
                (some (Sum.inr (0, 0, 2)))
                (cond (decide ((↑(t0.getD (IntKind.i64.wrap (t1 + t9)).toNat 0).toNat : Int) < 128))
                  (Option.bind (g89 (IntKind.u64.wrap (t7 + IntKind.u64.wrap (IntKind.u64.wrap ((↑(t0.getD (IntKind.i64.wrap (t1 + t9)).toNat 0).toNat : Int).tmod 128) * t8)))) fun v1 =>
                  some (Sum.inr (v1, IntKind.i64.wrap (IntKind.i64.wrap (t1 + t9) + 1), 0)))
                  (ih ((t0, t1, IntKind.u64.wrap (t7 + IntKind.u64.wrap (IntKind.u64.wrap ((↑(t0.getD (IntKind.i64.wrap (t1 + t9)).toNat 0).toNat : Int).tmod 128) * t8)), IntKind.u64.wrap (t8 * 128), IntKind.i64.wrap (t9 + 1)), ()))))
              (cond (decide ((↑(t0.getD (IntKind.i64.wrap (t1 + t9)).toNat 0).toNat : Int) < 128))
                (Option.bind (g89 (IntKind.u64.wrap (t7 + IntKind.u64.wrap (IntKind.u64.wrap ((↑(t0.getD (IntKind.i64.wrap (t1 + t9)).toNat 0).toNat : Int).tmod 128) * t8)))) fun v2 =>
                some (Sum.inr (v2, IntKind.i64.wrap (IntKind.i64.wrap (t1 + t9) + 1), 0)))
                (ih ((t0, t1, IntKind.u64.wrap (t7 + IntKind.u64.wrap (IntKind.u64.wrap ((↑(t0.getD (IntKind.i64.wrap (t1 + t9)).toNat 0).toNat : Int).tmod 128) * t8)), IntKind.u64.wrap (t8 * 128), IntKind.i64.wrap (t9 + 1)), ())))))
          (cond (decide (t9 > 0))
            (cond ((↑(t0.getD (IntKind.i64.wrap (t1 + t9)).toNat 0).toNat : Int) == 0)
              (some (Sum.inr (0, 0, 2)))
              (cond (decide ((↑(t0.getD (IntKind.i64.wrap (t1 + t9)).toNat 0).toNat : Int) < 128))
                (Option.bind (g89 (IntKind.u64.wrap (t7 + IntKind.u64.wrap (IntKind.u64.wrap ((↑(t0.getD (IntKind.i64.wrap (t1 + t9)).toNat 0).toNat : Int).tmod 128) * t8)))) fun v3 =>
                some (Sum.inr (v3, IntKind.i64.wrap (IntKind.i64.wrap (t1 + t9) + 1), 0)))
                (ih ((t0, t1, IntKind.u64.wrap (t7 + IntKind.u64.wrap (IntKind.u64.wrap ((↑(t0.getD (IntKind.i64.wrap (t1 + t9)).toNat 0).toNat : Int).tmod 128) * t8)), IntKind.u64.wrap (t8 * 128), IntKind.i64.wrap (t9 + 1)), ()))))
            (cond (decide ((↑(t0.getD (IntKind.i64.wrap (t1 + t9)).toNat 0).toNat : Int) < 128))
              (Option.bind (g89 (IntKind.u64.wrap (t7 + IntKind.u64.wrap (IntKind.u64.wrap ((↑(t0.getD (IntKind.i64.wrap (t1 + t9)).toNat 0).toNat : Int).tmod 128) * t8)))) fun v4 =>
              some (Sum.inr (v4, IntKind.i64.wrap (IntKind.i64.wrap (t1 + t9) + 1), 0)))
              (ih ((t0, t1, IntKind.u64.wrap (t7 + IntKind.u64.wrap (IntKind.u64.wrap ((↑(t0.getD (IntKind.i64.wrap (t1 + t9)).toNat 0).toNat : Int).tmod 128) * t8)), IntKind.u64.wrap (t8 * 128), IntKind.i64.wrap (t9 + 1)), ())))))
        (none)))
    (some (Sum.inl ((), ())))
noncomputable def h86_0 : ((List UInt8 × Int × Int × Int × Int) × (Unit)) → Option (((Unit) × (Unit)) ⊕ ((Int × Int × Int))) := loopN st86_0 fuel
noncomputable def l86_0 : LI D86 := ⟨ns86_0, ex86_0, h86_0⟩
noncomputable def lv86 : Nat → Option (LI D86) := fun q => if q = 6 then some l86_0 else (fun _ => none) q
noncomputable def g86 (a0 : List UInt8) (a1 : Int) : Option (Int × Int × Int) :=
  cond (decide (a1 < 0))
    (some ((0, 0, 1)))
    (cond (decide (a1 > (↑a0.length : Int)))
      (some ((0, 0, 1)))
      (Option.bind (h86_0 ((a0, a1, 0, 1, 0), ())) fun v1 =>
      match v1 with
      | .inl x2 =>
        some ((0, 0, 2))
      | .inr x2 =>
        some (x2)))
noncomputable def i86 : FI := ⟨ps86, .tup (.pr (.ty (.i .i64)) (.pr (.ty (.i .i64)) (.ty (.i .i64)))), fun (a0, a1) => g86 a0 a1⟩
theorem s86_0 : st86_0 = stepEval T Y env86 an lv86 (finO T true ps86 (.tup (.pr (.ty (.i .i64)) (.pr (.ty (.i .i64)) (.ty (.i .i64))))) Try.f86.results.toList) (loopAt c86 0) ns86_0 ex86_0 := by kernel_rfl
theorem e86 : (fun a => i86.G a) = fnEval T Y env86 an i86.ps i86.rs true Try.f86.results.toList lv86 c86 := by kernel_rfl
theorem lo86 : loopsOf c86 = [loopAt c86 0] := by kernel_rfl
theorem ll86 : LoopsOk T Y env86 an lv86 (finO T true ps86 (.tup (.pr (.ty (.i .i64)) (.pr (.ty (.i .i64)) (.ty (.i .i64))))) Try.f86.results.toList) c86 := loopsOk_of (by rw [lo86]; exact ⟨loop1 (li := l86_0) (by kernel_rfl) (by kernel_rfl) s86_0, trivial⟩)
theorem k86 : FnOk Try.prog 86 i86 :=
  fn_ok (T := T) (Y := Y) (an := an) (env := env86) (fr := true) (lenv := lv86) mixed tok.1 tok.2 (envCons k89 (envNil)) (fn := Try.f86) (c := c86) (by kernel_rfl) (by kernel_rfl) (by kernel_rfl) ll86 (fun a => congrFun e86 a)
/-! ### broker/brokerref03.PutText -/
noncomputable def c68 : Code := Try.f68.body.getD .skip
noncomputable def env68 : Env := mkEnv [(67, i67)]
abbrev ps68 : List PSh := [.d (.sl .u8), .d .s]
abbrev D68 : Type := pairD (.ow 1 .u8) (osOf ps68)
noncomputable def lv68 : Nat → Option (LI D68) := fun _ => none
noncomputable def g68 (a0 : List UInt8) (a1 : List UInt8) : Option (List UInt8) :=
  Option.bind (g67 a0 (↑a1.length : Int)) fun v1 =>
  cond (decide (List.length v1 + a1.length ≤ 2147483647))
    (some (v1 ++ a1))
    (none)
noncomputable def i68 : FI := ⟨ps68, .ow 1 .u8, fun (a0, a1) => g68 a0 a1⟩
theorem e68 : (fun a => i68.G a) = fnEval T Y env68 an i68.ps i68.rs false Try.f68.results.toList lv68 c68 := by kernel_rfl
theorem lo68 : loopsOf c68 = [] := by kernel_rfl
theorem ll68 : LoopsOk T Y env68 an lv68 (finO T false ps68 (.ow 1 .u8) Try.f68.results.toList) c68 := loopsOk_of (by rw [lo68]; exact trivial)
theorem k68 : FnOk Try.prog 68 i68 :=
  fn_ok (T := T) (Y := Y) (an := an) (env := env68) (fr := false) (lenv := lv68) mixed tok.1 tok.2 (envCons k67 (envNil)) (fn := Try.f68) (c := c68) (by kernel_rfl) (by kernel_rfl) (by kernel_rfl) ll68 (fun a => congrFun e68 a)
/-! ### broker/brokerref03.Count -/
noncomputable def c85 : Code := Try.f85.body.getD .skip
noncomputable def env85 : Env := mkEnv [(86, i86)]
abbrev ps85 : List PSh := [.d (.sl .u8), .d (.i .i64), .d (.i .i64)]
abbrev D85 : Type := pairD (.tup (.pr (.ty (.i .i64)) (.pr (.ty (.i .i64)) (.ty (.i .i64))))) (osOf ps85)
noncomputable def lv85 : Nat → Option (LI D85) := fun _ => none
noncomputable def g85 (a0 : List UInt8) (a1 : Int) (a2 : Int) : Option (Int × Int × Int) :=
  Option.bind (g86 a0 a1) fun v1 =>
  cond (v1.2.2 != 0)
    (some ((0, 0, v1.2.2)))
    (cond (decide (v1.1 < 0))
      (some ((0, 0, 2)))
      (cond (decide (v1.1 > a2))
        (some ((0, 0, 5)))
        (some ((v1.1, v1.2.1, 0)))))
noncomputable def i85 : FI := ⟨ps85, .tup (.pr (.ty (.i .i64)) (.pr (.ty (.i .i64)) (.ty (.i .i64)))), fun (a0, a1, a2) => g85 a0 a1 a2⟩
theorem e85 : (fun a => i85.G a) = fnEval T Y env85 an i85.ps i85.rs true Try.f85.results.toList lv85 c85 := by kernel_rfl
theorem lo85 : loopsOf c85 = [] := by kernel_rfl
theorem ll85 : LoopsOk T Y env85 an lv85 (finO T true ps85 (.tup (.pr (.ty (.i .i64)) (.pr (.ty (.i .i64)) (.ty (.i .i64))))) Try.f85.results.toList) c85 := loopsOk_of (by rw [lo85]; exact trivial)
theorem k85 : FnOk Try.prog 85 i85 :=
  fn_ok (T := T) (Y := Y) (an := an) (env := env85) (fr := true) (lenv := lv85) mixed tok.1 tok.2 (envCons k86 (envNil)) (fn := Try.f85) (c := c85) (by kernel_rfl) (by kernel_rfl) (by kernel_rfl) ll85 (fun a => congrFun e85 a)
/-! ### broker/brokerref03.Text -/
noncomputable def c87 : Code := Try.f87.body.getD .skip
noncomputable def env87 : Env := mkEnv [(85, i85)]
abbrev ps87 : List PSh := [.d (.sl .u8), .d (.i .i64), .d (.i .i64)]
abbrev D87 : Type := pairD (.tup (.pr (.ty .s) (.pr (.ty (.i .i64)) (.ty (.i .i64))))) (osOf ps87)
noncomputable def lv87 : Nat → Option (LI D87) := fun _ => none
noncomputable def g87 (a0 : List UInt8) (a1 : Int) (a2 : Int) : Option (List UInt8 × Int × Int) :=
  Option.bind (g85 a0 a1 a2) fun v1 =>
  cond (v1.2.2 != 0)
    (some (([], 0, v1.2.2)))
    (cond (decide (v1.1 > IntKind.i64.wrap ((↑a0.length : Int) - v1.2.1)))
      (some (([], 0, 3)))
      (cond (decide (0 ≤ IntKind.i64.wrap (v1.2.1 + v1.1)) && decide (IntKind.i64.wrap (v1.2.1 + v1.1) ≤ (↑a0.length : Int)) && (decide (0 ≤ v1.2.1) && decide (v1.2.1 ≤ IntKind.i64.wrap (v1.2.1 + v1.1))) && true)
        (some ((List.drop (Int.toNat v1.2.1) (List.take (IntKind.i64.wrap (v1.2.1 + v1.1)).toNat a0), IntKind.i64.wrap (v1.2.1 + v1.1), 0)))
        (none)))
noncomputable def i87 : FI := ⟨ps87, .tup (.pr (.ty .s) (.pr (.ty (.i .i64)) (.ty (.i .i64)))), fun (a0, a1, a2) => g87 a0 a1 a2⟩
theorem e87 : (fun a => i87.G a) = fnEval T Y env87 an i87.ps i87.rs true Try.f87.results.toList lv87 c87 := by kernel_rfl
theorem lo87 : loopsOf c87 = [] := by kernel_rfl
theorem ll87 : LoopsOk T Y env87 an lv87 (finO T true ps87 (.tup (.pr (.ty .s) (.pr (.ty (.i .i64)) (.ty (.i .i64))))) Try.f87.results.toList) c87 := loopsOk_of (by rw [lo87]; exact trivial)
theorem k87 : FnOk Try.prog 87 i87 :=
  fn_ok (T := T) (Y := Y) (an := an) (env := env87) (fr := true) (lenv := lv87) mixed tok.1 tok.2 (envCons k85 (envNil)) (fn := Try.f87) (c := c87) (by kernel_rfl) (by kernel_rfl) (by kernel_rfl) ll87 (fun a => congrFun e87 a)
/-! ### broker/frame.Sum -/
noncomputable def c81 : Code := Try.f81.body.getD .skip
noncomputable def env81 : Env := mkEnv []
abbrev ps81 : List PSh := [.d (.sl .u8)]
abbrev D81 : Type := pairD (.ty (.i .i64)) (osOf ps81)
def ns81_0 : NS := { slots := [(3, .ty (.i .u32)), (6, .ty (.sl .u8)), (7, .ty (.i .i64)), (8, .ty (.i .i64))], roots := [] }
def ex81_0 : List (Nat × NS) := [(0, { slots := [(3, .ty (.i .u32))], roots := [] })]
noncomputable def st81_0 (ih : ((Int × List UInt8 × Int × Int) × (Unit)) → Option (((Int) × (Unit)) ⊕ Int)) : ((Int × List UInt8 × Int × Int) × (Unit)) → Option (((Int) × (Unit)) ⊕ Int) := fun ((t3, t6, t7, t8), ()) =>
  cond (decide (t8 < t7))
    (cond (decide (0 ≤ t8) && decide (t8 < (↑t6.length : Int)))
      (ih ((IntKind.u32.wrap (IntKind.u32.wrap (↑(BitVec.ofInt IntKind.u32.bits t3 ^^^ BitVec.ofInt IntKind.u32.bits (IntKind.u32.wrap (↑(t6.getD t8.toNat 0).toNat : Int))).toNat : Int) * 16777619), t6, t7, IntKind.i64.wrap (t8 + 1)), ()))
      (none))
    (some (Sum.inl (t3, ())))
noncomputable def h81_0 : ((Int × List UInt8 × Int × Int) × (Unit)) → Option (((Int) × (Unit)) ⊕ Int) := loopN st81_0 fuel
noncomputable def l81_0 : LI D81 := ⟨ns81_0, ex81_0, h81_0⟩
noncomputable def lv81 : Nat → Option (LI D81) := fun q => if q = 3 then some l81_0 else (fun _ => none) q
noncomputable def g81 (a0 : List UInt8) : Option (Int) :=
  Option.bind (h81_0 ((2166136261, a0, (↑a0.length : Int), 0), ())) fun v1 =>
  match v1 with
  | .inl x2 =>
    some (IntKind.i64.wrap x2.1)
  | .inr x2 =>
    some (x2)
noncomputable def i81 : FI := ⟨ps81, .ty (.i .i64), fun a0 => g81 a0⟩
theorem s81_0 : st81_0 = stepEval T Y env81 an lv81 (finO T true ps81 (.ty (.i .i64)) Try.f81.results.toList) (loopAt c81 0) ns81_0 ex81_0 := by kernel_rfl
theorem e81 : (fun a => i81.G a) = fnEval T Y env81 an i81.ps i81.rs true Try.f81.results.toList lv81 c81 := by kernel_rfl
theorem lo81 : loopsOf c81 = [loopAt c81 0] := by kernel_rfl
theorem ll81 : LoopsOk T Y env81 an lv81 (finO T true ps81 (.ty (.i .i64)) Try.f81.results.toList) c81 := loopsOk_of (by rw [lo81]; exact ⟨loop1 (li := l81_0) (by kernel_rfl) (by kernel_rfl) s81_0, trivial⟩)
theorem k81 : FnOk Try.prog 81 i81 :=
  fn_ok (T := T) (Y := Y) (an := an) (env := env81) (fr := true) (lenv := lv81) mixed tok.1 tok.2 (envNil) (fn := Try.f81) (c := c81) (by kernel_rfl) (by kernel_rfl) (by kernel_rfl) ll81 (fun a => congrFun e81 a)
/-! ### broker/frame.Wrap -/
noncomputable def c65 : Code := Try.f65.body.getD .skip
noncomputable def env65 : Env := mkEnv [(81, i81), (64, i64)]
abbrev ps65 : List PSh := [.d (.sl .u8)]
abbrev D65 : Type := pairD (.ow 1 .u8) (osOf ps65)
noncomputable def lv65 : Nat → Option (LI D65) := fun _ => none
noncomputable def g65 (a0 : List UInt8) : Option (List UInt8) :=
  cond (decide ((↑a0.length : Int) > 65536))
    (some ([]))
    (Option.bind (g81 a0) fun v1 =>
    Option.bind (g64 [] (↑a0.length : Int)) fun v2 =>
    cond (decide (0 ≤ IntKind.u8.wrap (Int.fdiv v1 (2 ^ min (Int.toNat 24) IntKind.i64.bits))) && decide (IntKind.u8.wrap (Int.fdiv v1 (2 ^ min (Int.toNat 24) IntKind.i64.bits)) ≤ 255) && (decide (0 ≤ IntKind.u8.wrap (Int.fdiv v1 (2 ^ min (Int.toNat 16) IntKind.i64.bits))) && decide (IntKind.u8.wrap (Int.fdiv v1 (2 ^ min (Int.toNat 16) IntKind.i64.bits)) ≤ 255) && (decide (0 ≤ IntKind.u8.wrap (Int.fdiv v1 (2 ^ min (Int.toNat 8) IntKind.i64.bits))) && decide (IntKind.u8.wrap (Int.fdiv v1 (2 ^ min (Int.toNat 8) IntKind.i64.bits)) ≤ 255) && (decide (0 ≤ IntKind.u8.wrap v1) && decide (IntKind.u8.wrap v1 ≤ 255) && true))))
      (cond (decide (List.length v2 + 4 ≤ 2147483647))
        (cond (decide ((v2 ++ [UInt8.ofNat (IntKind.u8.wrap (Int.fdiv v1 (2 ^ min (Int.toNat 24) IntKind.i64.bits))).toNat, UInt8.ofNat (IntKind.u8.wrap (Int.fdiv v1 (2 ^ min (Int.toNat 16) IntKind.i64.bits))).toNat, UInt8.ofNat (IntKind.u8.wrap (Int.fdiv v1 (2 ^ min (Int.toNat 8) IntKind.i64.bits))).toNat, UInt8.ofNat (IntKind.u8.wrap v1).toNat]).length + a0.length ≤ 2147483647))
          (some (v2 ++ [UInt8.ofNat (IntKind.u8.wrap (Int.fdiv v1 (2 ^ min (Int.toNat 24) IntKind.i64.bits))).toNat, UInt8.ofNat (IntKind.u8.wrap (Int.fdiv v1 (2 ^ min (Int.toNat 16) IntKind.i64.bits))).toNat, UInt8.ofNat (IntKind.u8.wrap (Int.fdiv v1 (2 ^ min (Int.toNat 8) IntKind.i64.bits))).toNat, UInt8.ofNat (IntKind.u8.wrap v1).toNat] ++ a0))
          (none))
        (none))
      (none))
noncomputable def i65 : FI := ⟨ps65, .ow 1 .u8, fun a0 => g65 a0⟩
theorem e65 : (fun a => i65.G a) = fnEval T Y env65 an i65.ps i65.rs false Try.f65.results.toList lv65 c65 := by kernel_rfl
theorem lo65 : loopsOf c65 = [] := by kernel_rfl
theorem ll65 : LoopsOk T Y env65 an lv65 (finO T false ps65 (.ow 1 .u8) Try.f65.results.toList) c65 := loopsOk_of (by rw [lo65]; exact trivial)
theorem k65 : FnOk Try.prog 65 i65 :=
  fn_ok (T := T) (Y := Y) (an := an) (env := env65) (fr := false) (lenv := lv65) mixed tok.1 tok.2 (envCons k81 (envCons k64 (envNil))) (fn := Try.f65) (c := c65) (by kernel_rfl) (by kernel_rfl) (by kernel_rfl) ll65 (fun a => congrFun e65 a)
/-! ### broker/frame.Next -/
noncomputable def c70 : Code := Try.f70.body.getD .skip
noncomputable def env70 : Env := mkEnv [(71, i71), (81, i81)]
abbrev ps70 : List PSh := [.d (.sl .u8), .d (.i .i64)]
abbrev D70 : Type := pairD (.tup (.pr (.ty (.sl .u8)) (.pr (.ty (.i .i64)) (.ty (.i .i64))))) (osOf ps70)
noncomputable def lv70 : Nat → Option (LI D70) := fun _ => none
noncomputable def g70 (a0 : List UInt8) (a1 : Int) : Option (List UInt8 × Int × Int) :=
  Option.bind (g71 a0 a1) fun v1 =>
  cond (v1.2.2 != 0)
    (some (([], 0, v1.2.2)))
    (cond (decide (v1.1 < 0))
      (some (([], 0, 2)))
      (cond (decide (v1.1 > 65536))
        (some (([], 0, 5)))
        (cond (decide (IntKind.i64.wrap ((↑a0.length : Int) - v1.2.1) < IntKind.i64.wrap (4 + v1.1)))
          (some (([], 0, 3)))
          (cond (decide (0 ≤ IntKind.i64.wrap (v1.2.1 + 4)) && decide (IntKind.i64.wrap (v1.2.1 + 4) ≤ (↑a0.length : Int)) && (decide (0 ≤ v1.2.1) && decide (v1.2.1 ≤ IntKind.i64.wrap (v1.2.1 + 4))) && decide (IntKind.i64.wrap (v1.2.1 + 4) = (↑(IntKind.i64.wrap (v1.2.1 + 4)).toNat : Int)))
            (cond (decide (0 ≤ v1.1) && decide (v1.1 ≤ v1.1) && decide (v1.1 ≤ 2147483647))
              (cond (decide (0 ≤ IntKind.i64.wrap (IntKind.i64.wrap (v1.2.1 + 4) + v1.1)) && decide (IntKind.i64.wrap (IntKind.i64.wrap (v1.2.1 + 4) + v1.1) ≤ (↑a0.length : Int)) && (decide (0 ≤ IntKind.i64.wrap (v1.2.1 + 4)) && decide (IntKind.i64.wrap (v1.2.1 + 4) ≤ IntKind.i64.wrap (IntKind.i64.wrap (v1.2.1 + 4) + v1.1))) && true)
                (cond (decide (0 + (List.replicate (Int.toNat v1.1) (UInt8.ofNat (Int.toNat 0))).length ≤ (List.replicate (Int.toNat v1.1) (UInt8.ofNat (Int.toNat 0))).length))
                  (cond (decide (0 ≤ 0) && decide (0 < (↑(List.drop (Int.toNat v1.2.1) (List.take (IntKind.i64.wrap (v1.2.1 + 4)).toNat a0)).length : Int)))
                    (cond (decide (0 ≤ 1) && decide (1 < (↑(List.drop (Int.toNat v1.2.1) (List.take (IntKind.i64.wrap (v1.2.1 + 4)).toNat a0)).length : Int)))
                      (cond (decide (0 ≤ 2) && decide (2 < (↑(List.drop (Int.toNat v1.2.1) (List.take (IntKind.i64.wrap (v1.2.1 + 4)).toNat a0)).length : Int)))
                        (cond (decide (0 ≤ 3) && decide (3 < (↑(List.drop (Int.toNat v1.2.1) (List.take (IntKind.i64.wrap (v1.2.1 + 4)).toNat a0)).length : Int)))
                          (Option.bind (g81 (List.take 0 (List.replicate (Int.toNat v1.1) (UInt8.ofNat (Int.toNat 0))) ++ (List.take (List.replicate (Int.toNat v1.1) (UInt8.ofNat (Int.toNat 0))).length (List.drop (IntKind.i64.wrap (v1.2.1 + 4)).toNat (List.take (IntKind.i64.wrap (IntKind.i64.wrap (v1.2.1 + 4) + v1.1)).toNat a0)) ++ List.drop (0 + (List.take (List.replicate (Int.toNat v1.1) (UInt8.ofNat (Int.toNat 0))).length (List.drop (IntKind.i64.wrap (v1.2.1 + 4)).toNat (List.take (IntKind.i64.wrap (IntKind.i64.wrap (v1.2.1 + 4) + v1.1)).toNat a0))).length) (List.replicate (Int.toNat v1.1) (UInt8.ofNat (Int.toNat 0)))))) fun v2 =>
                          cond (IntKind.i64.wrap (↑(BitVec.ofInt IntKind.i64.bits (IntKind.i64.wrap (↑(BitVec.ofInt IntKind.i64.bits (IntKind.i64.wrap (↑(BitVec.ofInt IntKind.i64.bits (IntKind.i64.wrap (IntKind.i64.wrap (↑((List.drop (Int.toNat v1.2.1) (List.take (IntKind.i64.wrap (v1.2.1 + 4)).toNat a0)).getD (Int.toNat 0) 0).toNat : Int) * 2 ^ min (Int.toNat 24) IntKind.i64.bits)) ||| BitVec.ofInt IntKind.i64.bits (IntKind.i64.wrap (IntKind.i64.wrap (↑((List.drop (Int.toNat v1.2.1) (List.take (IntKind.i64.wrap (v1.2.1 + 4)).toNat a0)).getD (Int.toNat 1) 0).toNat : Int) * 2 ^ min (Int.toNat 16) IntKind.i64.bits))).toNat : Int)) ||| BitVec.ofInt IntKind.i64.bits (IntKind.i64.wrap (IntKind.i64.wrap (↑((List.drop (Int.toNat v1.2.1) (List.take (IntKind.i64.wrap (v1.2.1 + 4)).toNat a0)).getD (Int.toNat 2) 0).toNat : Int) * 2 ^ min (Int.toNat 8) IntKind.i64.bits))).toNat : Int)) ||| BitVec.ofInt IntKind.i64.bits (IntKind.i64.wrap (↑((List.drop (Int.toNat v1.2.1) (List.take (IntKind.i64.wrap (v1.2.1 + 4)).toNat a0)).getD (Int.toNat 3) 0).toNat : Int))).toNat : Int) != v2)
                            (some (([], 0, 4)))
                            (some ((List.take 0 (List.replicate (Int.toNat v1.1) (UInt8.ofNat (Int.toNat 0))) ++ (List.take (List.replicate (Int.toNat v1.1) (UInt8.ofNat (Int.toNat 0))).length (List.drop (IntKind.i64.wrap (v1.2.1 + 4)).toNat (List.take (IntKind.i64.wrap (IntKind.i64.wrap (v1.2.1 + 4) + v1.1)).toNat a0)) ++ List.drop (0 + (List.take (List.replicate (Int.toNat v1.1) (UInt8.ofNat (Int.toNat 0))).length (List.drop (IntKind.i64.wrap (v1.2.1 + 4)).toNat (List.take (IntKind.i64.wrap (IntKind.i64.wrap (v1.2.1 + 4) + v1.1)).toNat a0))).length) (List.replicate (Int.toNat v1.1) (UInt8.ofNat (Int.toNat 0)))), IntKind.i64.wrap (IntKind.i64.wrap (v1.2.1 + 4) + v1.1), 0))))
                          (none))
                        (none))
                      (none))
                    (none))
                  (none))
                (none))
              (none))
            (none)))))
noncomputable def i70 : FI := ⟨ps70, .tup (.pr (.ty (.sl .u8)) (.pr (.ty (.i .i64)) (.ty (.i .i64)))), fun (a0, a1) => g70 a0 a1⟩
theorem e70 : (fun a => i70.G a) = fnEval T Y env70 an i70.ps i70.rs true Try.f70.results.toList lv70 c70 := by kernel_rfl
theorem lo70 : loopsOf c70 = [] := by kernel_rfl
theorem ll70 : LoopsOk T Y env70 an lv70 (finO T true ps70 (.tup (.pr (.ty (.sl .u8)) (.pr (.ty (.i .i64)) (.ty (.i .i64))))) Try.f70.results.toList) c70 := loopsOk_of (by rw [lo70]; exact trivial)
theorem k70 : FnOk Try.prog 70 i70 :=
  fn_ok (T := T) (Y := Y) (an := an) (env := env70) (fr := true) (lenv := lv70) mixed tok.1 tok.2 (envCons k71 (envCons k81 (envNil))) (fn := Try.f70) (c := c70) (by kernel_rfl) (by kernel_rfl) (by kernel_rfl) ll70 (fun a => congrFun e70 a)
/-! ### broker/brokerref04.Sum -/
noncomputable def c83 : Code := Try.f83.body.getD .skip
noncomputable def env83 : Env := mkEnv []
abbrev ps83 : List PSh := [.d (.sl .u8)]
abbrev D83 : Type := pairD (.ty (.i .i64)) (osOf ps83)
def ns83_0 : NS := { slots := [(0, .ty (.sl .u8)), (3, .ty (.i .u64)), (4, .ty (.i .i64))], roots := [] }
def ex83_0 : List (Nat × NS) := [(0, { slots := [(3, .ty (.i .u64))], roots := [] })]
noncomputable def st83_0 (ih : ((List UInt8 × Int × Int) × (Unit)) → Option (((Int) × (Unit)) ⊕ Int)) : ((List UInt8 × Int × Int) × (Unit)) → Option (((Int) × (Unit)) ⊕ Int) := fun ((t0, t3, t4), ()) =>
  cond (decide (t4 < (↑t0.length : Int)))
    (cond (decide (0 ≤ t4) && decide (t4 < (↑t0.length : Int)))
      (ih ((t0, (IntKind.u64.wrap (IntKind.u64.wrap (↑(BitVec.ofInt IntKind.u64.bits t3 ^^^ BitVec.ofInt IntKind.u64.bits (IntKind.u64.wrap (↑(t0.getD t4.toNat 0).toNat : Int))).toNat : Int) * 16777619)).tmod 4294967296, IntKind.i64.wrap (t4 + 1)), ()))
      (none))
    (some (Sum.inl (t3, ())))
noncomputable def h83_0 : ((List UInt8 × Int × Int) × (Unit)) → Option (((Int) × (Unit)) ⊕ Int) := loopN st83_0 fuel
noncomputable def l83_0 : LI D83 := ⟨ns83_0, ex83_0, h83_0⟩
noncomputable def lv83 : Nat → Option (LI D83) := fun q => if q = 3 then some l83_0 else (fun _ => none) q
noncomputable def g83 (a0 : List UInt8) : Option (Int) :=
  Option.bind (h83_0 ((a0, 2166136261, 0), ())) fun v1 =>
  match v1 with
  | .inl x2 =>
    some (IntKind.i64.wrap x2.1)
  | .inr x2 =>
    some (x2)
noncomputable def i83 : FI := ⟨ps83, .ty (.i .i64), fun a0 => g83 a0⟩
theorem s83_0 : st83_0 = stepEval T Y env83 an lv83 (finO T true ps83 (.ty (.i .i64)) Try.f83.results.toList) (loopAt c83 0) ns83_0 ex83_0 := by kernel_rfl
theorem e83 : (fun a => i83.G a) = fnEval T Y env83 an i83.ps i83.rs true Try.f83.results.toList lv83 c83 := by kernel_rfl
theorem lo83 : loopsOf c83 = [loopAt c83 0] := by kernel_rfl
theorem ll83 : LoopsOk T Y env83 an lv83 (finO T true ps83 (.ty (.i .i64)) Try.f83.results.toList) c83 := loopsOk_of (by rw [lo83]; exact ⟨loop1 (li := l83_0) (by kernel_rfl) (by kernel_rfl) s83_0, trivial⟩)
theorem k83 : FnOk Try.prog 83 i83 :=
  fn_ok (T := T) (Y := Y) (an := an) (env := env83) (fr := true) (lenv := lv83) mixed tok.1 tok.2 (envNil) (fn := Try.f83) (c := c83) (by kernel_rfl) (by kernel_rfl) (by kernel_rfl) ll83 (fun a => congrFun e83 a)
/-! ### broker/brokerref04.Wrap -/
noncomputable def c69 : Code := Try.f69.body.getD .skip
noncomputable def env69 : Env := mkEnv [(83, i83), (67, i67)]
abbrev ps69 : List PSh := [.d (.sl .u8)]
abbrev D69 : Type := pairD (.ow 1 .u8) (osOf ps69)
noncomputable def lv69 : Nat → Option (LI D69) := fun _ => none
noncomputable def g69 (a0 : List UInt8) : Option (List UInt8) :=
  cond (decide ((↑a0.length : Int) > 65536))
    (some ([]))
    (Option.bind (g83 a0) fun v1 =>
    Option.bind (g67 [] (↑a0.length : Int)) fun v2 =>
    cond (decide (0 ≤ IntKind.u8.wrap (Int.fdiv v1 (2 ^ min (Int.toNat 24) IntKind.i64.bits))) && decide (IntKind.u8.wrap (Int.fdiv v1 (2 ^ min (Int.toNat 24) IntKind.i64.bits)) ≤ 255) && (decide (0 ≤ IntKind.u8.wrap (IntKind.i64.wrap (↑(BitVec.ofInt IntKind.i64.bits (Int.fdiv v1 (2 ^ min (Int.toNat 16) IntKind.i64.bits)) &&& BitVec.ofInt IntKind.i64.bits 255).toNat : Int))) && decide (IntKind.u8.wrap (IntKind.i64.wrap (↑(BitVec.ofInt IntKind.i64.bits (Int.fdiv v1 (2 ^ min (Int.toNat 16) IntKind.i64.bits)) &&& BitVec.ofInt IntKind.i64.bits 255).toNat : Int)) ≤ 255) && (decide (0 ≤ IntKind.u8.wrap (IntKind.i64.wrap (↑(BitVec.ofInt IntKind.i64.bits (Int.fdiv v1 (2 ^ min (Int.toNat 8) IntKind.i64.bits)) &&& BitVec.ofInt IntKind.i64.bits 255).toNat : Int))) && decide (IntKind.u8.wrap (IntKind.i64.wrap (↑(BitVec.ofInt IntKind.i64.bits (Int.fdiv v1 (2 ^ min (Int.toNat 8) IntKind.i64.bits)) &&& BitVec.ofInt IntKind.i64.bits 255).toNat : Int)) ≤ 255) && (decide (0 ≤ IntKind.u8.wrap (IntKind.i64.wrap (↑(BitVec.ofInt IntKind.i64.bits v1 &&& BitVec.ofInt IntKind.i64.bits 255).toNat : Int))) && decide (IntKind.u8.wrap (IntKind.i64.wrap (↑(BitVec.ofInt IntKind.i64.bits v1 &&& BitVec.ofInt IntKind.i64.bits 255).toNat : Int)) ≤ 255) && true))))
      (cond (decide (List.length v2 + 4 ≤ 2147483647))
        (cond (decide ((v2 ++ [UInt8.ofNat (IntKind.u8.wrap (Int.fdiv v1 (2 ^ min (Int.toNat 24) IntKind.i64.bits))).toNat, UInt8.ofNat (IntKind.u8.wrap (IntKind.i64.wrap (↑(BitVec.ofInt IntKind.i64.bits (Int.fdiv v1 (2 ^ min (Int.toNat 16) IntKind.i64.bits)) &&& BitVec.ofInt IntKind.i64.bits 255).toNat : Int))).toNat, UInt8.ofNat (IntKind.u8.wrap (IntKind.i64.wrap (↑(BitVec.ofInt IntKind.i64.bits (Int.fdiv v1 (2 ^ min (Int.toNat 8) IntKind.i64.bits)) &&& BitVec.ofInt IntKind.i64.bits 255).toNat : Int))).toNat, UInt8.ofNat (IntKind.u8.wrap (IntKind.i64.wrap (↑(BitVec.ofInt IntKind.i64.bits v1 &&& BitVec.ofInt IntKind.i64.bits 255).toNat : Int))).toNat]).length + a0.length ≤ 2147483647))
          (some (v2 ++ [UInt8.ofNat (IntKind.u8.wrap (Int.fdiv v1 (2 ^ min (Int.toNat 24) IntKind.i64.bits))).toNat, UInt8.ofNat (IntKind.u8.wrap (IntKind.i64.wrap (↑(BitVec.ofInt IntKind.i64.bits (Int.fdiv v1 (2 ^ min (Int.toNat 16) IntKind.i64.bits)) &&& BitVec.ofInt IntKind.i64.bits 255).toNat : Int))).toNat, UInt8.ofNat (IntKind.u8.wrap (IntKind.i64.wrap (↑(BitVec.ofInt IntKind.i64.bits (Int.fdiv v1 (2 ^ min (Int.toNat 8) IntKind.i64.bits)) &&& BitVec.ofInt IntKind.i64.bits 255).toNat : Int))).toNat, UInt8.ofNat (IntKind.u8.wrap (IntKind.i64.wrap (↑(BitVec.ofInt IntKind.i64.bits v1 &&& BitVec.ofInt IntKind.i64.bits 255).toNat : Int))).toNat] ++ a0))
          (none))
        (none))
      (none))
noncomputable def i69 : FI := ⟨ps69, .ow 1 .u8, fun a0 => g69 a0⟩
theorem e69 : (fun a => i69.G a) = fnEval T Y env69 an i69.ps i69.rs false Try.f69.results.toList lv69 c69 := by kernel_rfl
theorem lo69 : loopsOf c69 = [] := by kernel_rfl
theorem ll69 : LoopsOk T Y env69 an lv69 (finO T false ps69 (.ow 1 .u8) Try.f69.results.toList) c69 := loopsOk_of (by rw [lo69]; exact trivial)
theorem k69 : FnOk Try.prog 69 i69 :=
  fn_ok (T := T) (Y := Y) (an := an) (env := env69) (fr := false) (lenv := lv69) mixed tok.1 tok.2 (envCons k83 (envCons k67 (envNil))) (fn := Try.f69) (c := c69) (by kernel_rfl) (by kernel_rfl) (by kernel_rfl) ll69 (fun a => congrFun e69 a)
/-! ### broker/brokerref04.Next -/
noncomputable def c73 : Code := Try.f73.body.getD .skip
noncomputable def env73 : Env := mkEnv [(85, i85), (69, i69)]
abbrev ps73 : List PSh := [.d (.sl .u8), .d (.i .i64)]
abbrev D73 : Type := pairD (.tup (.pr (.ty (.sl .u8)) (.pr (.ty (.i .i64)) (.ty (.i .i64))))) (osOf ps73)
noncomputable def lv73 : Nat → Option (LI D73) := fun _ => none
noncomputable def g73 (a0 : List UInt8) (a1 : Int) : Option (List UInt8 × Int × Int) :=
  Option.bind (g85 a0 a1 65536) fun v1 =>
  cond (v1.2.2 != 0)
    (some (([], 0, v1.2.2)))
    (cond (decide (IntKind.i64.wrap ((↑a0.length : Int) - v1.2.1) < IntKind.i64.wrap (4 + v1.1)))
      (some (([], 0, 3)))
      (cond (decide (0 ≤ IntKind.i64.wrap (IntKind.i64.wrap (v1.2.1 + 4) + v1.1)) && decide (IntKind.i64.wrap (IntKind.i64.wrap (v1.2.1 + 4) + v1.1) ≤ (↑a0.length : Int)) && (decide (0 ≤ IntKind.i64.wrap (v1.2.1 + 4)) && decide (IntKind.i64.wrap (v1.2.1 + 4) ≤ IntKind.i64.wrap (IntKind.i64.wrap (v1.2.1 + 4) + v1.1))) && true)
        (cond (decide (0 + (List.drop (IntKind.i64.wrap (v1.2.1 + 4)).toNat (List.take (IntKind.i64.wrap (IntKind.i64.wrap (v1.2.1 + 4) + v1.1)).toNat a0)).length ≤ 2147483647))
          (Option.bind (g69 ([] ++ List.drop (IntKind.i64.wrap (v1.2.1 + 4)).toNat (List.take (IntKind.i64.wrap (IntKind.i64.wrap (v1.2.1 + 4) + v1.1)).toNat a0))) fun v2 =>
          cond (decide (0 ≤ IntKind.i64.wrap (IntKind.i64.wrap (v1.2.1 + 4) + v1.1)) && decide (IntKind.i64.wrap (IntKind.i64.wrap (v1.2.1 + 4) + v1.1) ≤ (↑a0.length : Int)) && (decide (0 ≤ a1) && decide (a1 ≤ IntKind.i64.wrap (IntKind.i64.wrap (v1.2.1 + 4) + v1.1))) && true)
            (cond (!v2 == List.drop a1.toNat (List.take (IntKind.i64.wrap (IntKind.i64.wrap (v1.2.1 + 4) + v1.1)).toNat a0))
              (some (([], 0, 4)))
              (some (([] ++ List.drop (IntKind.i64.wrap (v1.2.1 + 4)).toNat (List.take (IntKind.i64.wrap (IntKind.i64.wrap (v1.2.1 + 4) + v1.1)).toNat a0), IntKind.i64.wrap (IntKind.i64.wrap (v1.2.1 + 4) + v1.1), 0))))
            (none))
          (none))
        (none)))
noncomputable def i73 : FI := ⟨ps73, .tup (.pr (.ty (.sl .u8)) (.pr (.ty (.i .i64)) (.ty (.i .i64)))), fun (a0, a1) => g73 a0 a1⟩
theorem e73 : (fun a => i73.G a) = fnEval T Y env73 an i73.ps i73.rs true Try.f73.results.toList lv73 c73 := by kernel_rfl
theorem lo73 : loopsOf c73 = [] := by kernel_rfl
theorem ll73 : LoopsOk T Y env73 an lv73 (finO T true ps73 (.tup (.pr (.ty (.sl .u8)) (.pr (.ty (.i .i64)) (.ty (.i .i64))))) Try.f73.results.toList) c73 := loopsOk_of (by rw [lo73]; exact trivial)
theorem k73 : FnOk Try.prog 73 i73 :=
  fn_ok (T := T) (Y := Y) (an := an) (env := env73) (fr := true) (lenv := lv73) mixed tok.1 tok.2 (envCons k85 (envCons k69 (envNil))) (fn := Try.f73) (c := c73) (by kernel_rfl) (by kernel_rfl) (by kernel_rfl) ll73 (fun a => congrFun e73 a)
end Go.Proofs.Ytkkelbakadbbhaa.EVT
