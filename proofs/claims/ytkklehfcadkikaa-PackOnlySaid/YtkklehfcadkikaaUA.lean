/- What functions compute, as printed (U, part A). -/
import Derived.Test.YtkklehfcadkikaaTv13
import Derived.Test.YtkklehfcadkikaaUT
set_option linter.unusedVariables false
set_option maxRecDepth 100000
set_option maxHeartbeats 0
namespace Go.Proofs.Ytkklehfcadkikaa.EVT
open Go Go.EV
/-! ### broker/pack.code -/
noncomputable def c59 : Code := Try.f59.body.getD .skip
noncomputable def env59 : Env := mkEnv []
abbrev ps59 : List PSh := [.d (.i .i64)]
abbrev D59 : Type := pairD (.ty (.i .u64)) (osOf ps59)
noncomputable def lv59 : Nat → Option (LI D59) := fun _ => none
noncomputable def g59 (a0 : Int) : Option (Int) :=
  some (IntKind.u64.wrap (↑(BitVec.ofInt IntKind.u64.bits (IntKind.u64.wrap (IntKind.u64.wrap a0 * 2 ^ min (Int.toNat 1) IntKind.u64.bits)) ^^^ BitVec.ofInt IntKind.u64.bits (IntKind.u64.wrap (a0.fdiv (2 ^ min (Int.toNat 63) IntKind.i64.bits)))).toNat : Int))
noncomputable def i59 : FI := ⟨ps59, .ty (.i .u64), fun a0 => g59 a0⟩
theorem e59 : (fun a => i59.G a) = fnEval T Y env59 an i59.ps i59.rs true Try.f59.results.toList lv59 c59 := by kernel_rfl
theorem lo59 : loopsOf c59 = [] := by kernel_rfl
theorem ll59 : LoopsOk T Y env59 an lv59 (finO T true ps59 (.ty (.i .u64)) Try.f59.results.toList) c59 := loopsOk_of (by rw [lo59]; exact trivial)
theorem k59 : FnOk Try.prog 59 i59 :=
  fn_ok (T := T) (Y := Y) (an := an) (env := env59) (fr := true) (lenv := lv59) mixed tok.1 tok.2 (envNil) (fn := Try.f59) (c := c59) (by kernel_rfl) (by kernel_rfl) (by kernel_rfl) ll59 (fun a => congrFun e59 a)
/-! ### broker/pack.add -/
noncomputable def c53 : Code := Try.f53.body.getD .skip
noncomputable def env53 : Env := mkEnv [(59, i59)]
abbrev ps53 : List PSh := [.ow (.ow 1 .u8), .d (.i .i64)]
abbrev D53 : Type := pairD (.ow 1 .u8) (osOf ps53)
def ns53_0 : NS := { slots := [(0, .hw 16), (5, .ty (.i .u64))], roots := [(16, .ar 1 .u8)], ad := [{ t := 0, path := [], g := 16, d := 1, τ := (.u8 : Ty) }] }
def ex53_0 : List (Nat × NS) := [(0, { slots := [(0, .hw 16), (5, .ty (.i .u64))], roots := [(16, .ar 1 .u8)] })]
noncomputable def st53_0 (ih : ((Int) × (List UInt8)) → Option (((Int) × (List UInt8)) ⊕ (List UInt8))) : ((Int) × (List UInt8)) → Option (((Int) × (List UInt8)) ⊕ (List UInt8)) := fun (t5, r16) =>
  cond (decide (t5 > 127))
    (cond (decide (0 ≤ IntKind.u8.wrap (↑(BitVec.ofInt IntKind.u8.bits (IntKind.u8.wrap (IntKind.u64.wrap (↑(BitVec.ofInt IntKind.u64.bits t5 &&& BitVec.ofInt IntKind.u64.bits 127).toNat : Int))) ||| BitVec.ofInt IntKind.u8.bits 128).toNat : Int)) && decide (IntKind.u8.wrap (↑(BitVec.ofInt IntKind.u8.bits (IntKind.u8.wrap (IntKind.u64.wrap (↑(BitVec.ofInt IntKind.u64.bits t5 &&& BitVec.ofInt IntKind.u64.bits 127).toNat : Int))) ||| BitVec.ofInt IntKind.u8.bits 128).toNat : Int) ≤ 255) && true)
      (cond (decide (r16.length + 1 ≤ 2147483647))
        (ih (t5.fdiv (2 ^ min (Int.toNat 7) IntKind.u64.bits), r16 ++ [UInt8.ofNat (IntKind.u8.wrap (↑(BitVec.ofInt IntKind.u8.bits (IntKind.u8.wrap (IntKind.u64.wrap (↑(BitVec.ofInt IntKind.u64.bits t5 &&& BitVec.ofInt IntKind.u64.bits 127).toNat : Int))) ||| BitVec.ofInt IntKind.u8.bits 128).toNat : Int)).toNat]))
        (none))
      (none))
    (some (Sum.inl (t5, r16)))
noncomputable def h53_0 : ((Int) × (List UInt8)) → Option (((Int) × (List UInt8)) ⊕ (List UInt8)) := loopN st53_0 fuel
noncomputable def l53_0 : LI D53 := ⟨ns53_0, ex53_0, h53_0⟩
noncomputable def lv53 : Nat → Option (LI D53) := fun q => if q = 2 then some l53_0 else (fun _ => none) q
noncomputable def g53 (a0 : List UInt8) (a1 : Int) : Option (List UInt8) :=
  Option.bind (g59 a1) fun v1 =>
  Option.bind (h53_0 (v1, a0)) fun v2 =>
  match v2 with
  | .inl x3 =>
    cond (decide (0 ≤ IntKind.u8.wrap x3.1) && decide (IntKind.u8.wrap x3.1 ≤ 255) && true)
      (cond (decide (List.length x3.2 + 1 ≤ 2147483647))
        (some (x3.2 ++ [UInt8.ofNat (IntKind.u8.wrap x3.1).toNat]))
        (none))
      (none)
  | .inr x3 =>
    some (x3)
noncomputable def i53 : FI := ⟨ps53, .ow 1 .u8, fun (a0, a1) => g53 a0 a1⟩
theorem s53_0 : st53_0 = stepEval T Y env53 an lv53 (finO T false ps53 (.ow 1 .u8) Try.f53.results.toList) (loopAt c53 0) ns53_0 ex53_0 := by kernel_rfl
theorem e53 : (fun a => i53.G a) = fnEval T Y env53 an i53.ps i53.rs false Try.f53.results.toList lv53 c53 := by kernel_rfl
theorem lo53 : loopsOf c53 = [loopAt c53 0] := by kernel_rfl
theorem ll53 : LoopsOk T Y env53 an lv53 (finO T false ps53 (.ow 1 .u8) Try.f53.results.toList) c53 := loopsOk_of (by rw [lo53]; exact ⟨loop1 (li := l53_0) (by kernel_rfl) (by kernel_rfl) s53_0, trivial⟩)
theorem k53 : FnOk Try.prog 53 i53 :=
  fn_ok (T := T) (Y := Y) (an := an) (env := env53) (fr := false) (lenv := lv53) mixed tok.1 tok.2 (envCons k59 (envNil)) (fn := Try.f53) (c := c53) (by kernel_rfl) (by kernel_rfl) (by kernel_rfl) ll53 (fun a => congrFun e53 a)
/-! ### broker/pack.owned -/
noncomputable def c54 : Code := Try.f54.body.getD .skip
noncomputable def env54 : Env := mkEnv []
abbrev ps54 : List PSh := [.d (.sl .u8), .d (.i .i64)]
abbrev D54 : Type := pairD (.ow 1 .u8) (osOf ps54)
noncomputable def lv54 : Nat → Option (LI D54) := fun _ => none
noncomputable def g54 (a0 : List UInt8) (a1 : Int) : Option (List UInt8) :=
  cond (decide (0 ≤ (↑a0.length : Int)) && decide ((↑a0.length : Int) ≤ IntKind.i64.wrap ((↑a0.length : Int) + a1)) && decide (IntKind.i64.wrap ((↑a0.length : Int) + a1) ≤ 2147483647))
    (cond (decide (0 + (List.replicate (↑a0.length : Int).toNat (UInt8.ofNat (Int.toNat 0))).length ≤ (List.replicate (↑a0.length : Int).toNat (UInt8.ofNat (Int.toNat 0))).length))
      (some (List.take 0 (List.replicate (↑a0.length : Int).toNat (UInt8.ofNat (Int.toNat 0))) ++ (List.take (List.replicate (↑a0.length : Int).toNat (UInt8.ofNat (Int.toNat 0))).length a0 ++ List.drop (0 + (List.take (List.replicate (↑a0.length : Int).toNat (UInt8.ofNat (Int.toNat 0))).length a0).length) (List.replicate (↑a0.length : Int).toNat (UInt8.ofNat (Int.toNat 0))))))
      (none))
    (none)
noncomputable def i54 : FI := ⟨ps54, .ow 1 .u8, fun (a0, a1) => g54 a0 a1⟩
theorem e54 : (fun a => i54.G a) = fnEval T Y env54 an i54.ps i54.rs false Try.f54.results.toList lv54 c54 := by kernel_rfl
theorem lo54 : loopsOf c54 = [] := by kernel_rfl
theorem ll54 : LoopsOk T Y env54 an lv54 (finO T false ps54 (.ow 1 .u8) Try.f54.results.toList) c54 := loopsOk_of (by rw [lo54]; exact trivial)
theorem k54 : FnOk Try.prog 54 i54 :=
  fn_ok (T := T) (Y := Y) (an := an) (env := env54) (fr := false) (lenv := lv54) mixed tok.1 tok.2 (envNil) (fn := Try.f54) (c := c54) (by kernel_rfl) (by kernel_rfl) (by kernel_rfl) ll54 (fun a => congrFun e54 a)
/-! ### broker/pack.PutNum -/
noncomputable def c21 : Code := Try.f21.body.getD .skip
noncomputable def env21 : Env := mkEnv [(54, i54), (53, i53)]
abbrev ps21 : List PSh := [.d (.sl .u8), .d (.i .i64)]
abbrev D21 : Type := pairD (.ow 1 .u8) (osOf ps21)
noncomputable def lv21 : Nat → Option (LI D21) := fun _ => none
noncomputable def g21 (a0 : List UInt8) (a1 : Int) : Option (List UInt8) :=
  Option.bind (g54 a0 10) fun v1 =>
  Option.bind (g53 v1 a1) fun v2 =>
  some (v2)
noncomputable def i21 : FI := ⟨ps21, .ow 1 .u8, fun (a0, a1) => g21 a0 a1⟩
theorem e21 : (fun a => i21.G a) = fnEval T Y env21 an i21.ps i21.rs false Try.f21.results.toList lv21 c21 := by kernel_rfl
theorem lo21 : loopsOf c21 = [] := by kernel_rfl
theorem ll21 : LoopsOk T Y env21 an lv21 (finO T false ps21 (.ow 1 .u8) Try.f21.results.toList) c21 := loopsOk_of (by rw [lo21]; exact trivial)
theorem k21 : FnOk Try.prog 21 i21 :=
  fn_ok (T := T) (Y := Y) (an := an) (env := env21) (fr := false) (lenv := lv21) mixed tok.1 tok.2 (envCons k54 (envCons k53 (envNil))) (fn := Try.f21) (c := c21) (by kernel_rfl) (by kernel_rfl) (by kernel_rfl) ll21 (fun a => congrFun e21 a)
/-! ### broker/pack.number -/
noncomputable def c56 : Code := Try.f56.body.getD .skip
noncomputable def env56 : Env := mkEnv []
abbrev ps56 : List PSh := [.d (.i .u64)]
abbrev D56 : Type := pairD (.ty (.i .i64)) (osOf ps56)
noncomputable def lv56 : Nat → Option (LI D56) := fun _ => none
noncomputable def g56 (a0 : Int) : Option (Int) :=
  cond (IntKind.u64.wrap (↑(BitVec.ofInt IntKind.u64.bits a0 &&& BitVec.ofInt IntKind.u64.bits 1).toNat : Int) == 1)
    (some (IntKind.i64.wrap (IntKind.i64.wrap (0 - IntKind.i64.wrap (a0.fdiv (2 ^ min (Int.toNat 1) IntKind.u64.bits))) - 1)))
    (some (IntKind.i64.wrap (a0.fdiv (2 ^ min (Int.toNat 1) IntKind.u64.bits))))
noncomputable def i56 : FI := ⟨ps56, .ty (.i .i64), fun a0 => g56 a0⟩
theorem e56 : (fun a => i56.G a) = fnEval T Y env56 an i56.ps i56.rs true Try.f56.results.toList lv56 c56 := by kernel_rfl
theorem lo56 : loopsOf c56 = [] := by kernel_rfl
theorem ll56 : LoopsOk T Y env56 an lv56 (finO T true ps56 (.ty (.i .i64)) Try.f56.results.toList) c56 := loopsOk_of (by rw [lo56]; exact trivial)
theorem k56 : FnOk Try.prog 56 i56 :=
  fn_ok (T := T) (Y := Y) (an := an) (env := env56) (fr := true) (lenv := lv56) mixed tok.1 tok.2 (envNil) (fn := Try.f56) (c := c56) (by kernel_rfl) (by kernel_rfl) (by kernel_rfl) ll56 (fun a => congrFun e56 a)
/-! ### broker/pack.Num -/
noncomputable def c23 : Code := Try.f23.body.getD .skip
noncomputable def env23 : Env := mkEnv [(56, i56)]
abbrev ps23 : List PSh := [.d (.sl .u8), .d (.i .i64)]
abbrev D23 : Type := pairD (.tup (.pr (.ty (.i .i64)) (.pr (.ty (.i .i64)) (.ty (.i .i64))))) (osOf ps23)
def ns23_0 : NS := { slots := [(0, .ty (.sl .u8)), (1, .ty (.i .i64)), (7, .ty (.i .u64)), (8, .ty (.i .i64))], roots := [] }
def ex23_0 : List (Nat × NS) := []
noncomputable def st23_0 (ih : ((List UInt8 × Int × Int × Int) × (Unit)) → Option ((Int × Int × Int))) : ((List UInt8 × Int × Int × Int) × (Unit)) → Option ((Int × Int × Int)) := fun ((t0, t1, t7, t8), ()) =>
  cond (IntKind.i64.wrap (t1 + t8) == (↑t0.length : Int))
    (some ((0, 0, 3)))
    (cond (decide (0 ≤ IntKind.i64.wrap (t1 + t8)) && decide (IntKind.i64.wrap (t1 + t8) < (↑t0.length : Int)))
      (cond (t8 == 9)
        (cond (decide ((↑(t0.getD (IntKind.i64.wrap (t1 + t8)).toNat 0).toNat : Int) > 1))
          (some ((0, 0, 2)))
          (cond (decide (t8 > 0))
            (cond ((↑(t0.getD (IntKind.i64.wrap (t1 + t8)).toNat 0).toNat : Int) == 0)
              (some ((0, 0, 2)))
              (cond (!decide (IntKind.i64.wrap (7 * t8) < 0))
                (cond (decide ((↑(t0.getD (IntKind.i64.wrap (t1 + t8)).toNat 0).toNat : Int) < 128))
                  (Option.bind (g56 (IntKind.u64.wrap (↑(BitVec.ofInt IntKind.u64.bits t7 ||| BitVec.ofInt IntKind.u64.bits (IntKind.u64.wrap (IntKind.u64.wrap (IntKind.u8.wrap (↑(BitVec.ofInt IntKind.u8.bits (↑(t0.getD (IntKind.i64.wrap (t1 + t8)).toNat 0).toNat : Int) &&& BitVec.ofInt IntKind.u8.bits 127).toNat : Int)) * 2 ^ min (IntKind.i64.wrap (7 * t8)).toNat IntKind.u64.bits))).toNat : Int))) fun v1 =>
                  some ((v1, IntKind.i64.wrap (IntKind.i64.wrap (t1 + t8) + 1), 0)))
                  (ih ((t0, t1, IntKind.u64.wrap (↑(BitVec.ofInt IntKind.u64.bits t7 ||| BitVec.ofInt IntKind.u64.bits (IntKind.u64.wrap (IntKind.u64.wrap (IntKind.u8.wrap (↑(BitVec.ofInt IntKind.u8.bits (↑(t0.getD (IntKind.i64.wrap (t1 + t8)).toNat 0).toNat : Int) &&& BitVec.ofInt IntKind.u8.bits 127).toNat : Int)) * 2 ^ min (IntKind.i64.wrap (7 * t8)).toNat IntKind.u64.bits))).toNat : Int), IntKind.i64.wrap (t8 + 1)), ())))
                (none)))
            (cond (!decide (IntKind.i64.wrap (7 * t8) < 0))
              (cond (decide ((↑(t0.getD (IntKind.i64.wrap (t1 + t8)).toNat 0).toNat : Int) < 128))
                (Option.bind (g56 (IntKind.u64.wrap (↑(BitVec.ofInt IntKind.u64.bits t7 ||| BitVec.ofInt IntKind.u64.bits (IntKind.u64.wrap (IntKind.u64.wrap (IntKind.u8.wrap (↑(BitVec.ofInt IntKind.u8.bits (↑(t0.getD (IntKind.i64.wrap (t1 + t8)).toNat 0).toNat : Int) &&& BitVec.ofInt IntKind.u8.bits 127).toNat : Int)) * 2 ^ min (IntKind.i64.wrap (7 * t8)).toNat IntKind.u64.bits))).toNat : Int))) fun v2 =>
                some ((v2, IntKind.i64.wrap (IntKind.i64.wrap (t1 + t8) + 1), 0)))
                (ih ((t0, t1, IntKind.u64.wrap (↑(BitVec.ofInt IntKind.u64.bits t7 ||| BitVec.ofInt IntKind.u64.bits (IntKind.u64.wrap (IntKind.u64.wrap (IntKind.u8.wrap (↑(BitVec.ofInt IntKind.u8.bits (↑(t0.getD (IntKind.i64.wrap (t1 + t8)).toNat 0).toNat : Int) &&& BitVec.ofInt IntKind.u8.bits 127).toNat : Int)) * 2 ^ min (IntKind.i64.wrap (7 * t8)).toNat IntKind.u64.bits))).toNat : Int), IntKind.i64.wrap (t8 + 1)), ())))
              (none))))
        (cond (decide (t8 > 0))
          (cond ((↑(t0.getD (IntKind.i64.wrap (t1 + t8)).toNat 0).toNat : Int) == 0)
            (some ((0, 0, 2)))
            (cond (!decide (IntKind.i64.wrap (7 * t8) < 0))
              (cond (decide ((↑(t0.getD (IntKind.i64.wrap (t1 + t8)).toNat 0).toNat : Int) < 128))
                (Option.bind (g56 (IntKind.u64.wrap (↑(BitVec.ofInt IntKind.u64.bits t7 ||| BitVec.ofInt IntKind.u64.bits (IntKind.u64.wrap (IntKind.u64.wrap (IntKind.u8.wrap (↑(BitVec.ofInt IntKind.u8.bits (↑(t0.getD (IntKind.i64.wrap (t1 + t8)).toNat 0).toNat : Int) &&& BitVec.ofInt IntKind.u8.bits 127).toNat : Int)) * 2 ^ min (IntKind.i64.wrap (7 * t8)).toNat IntKind.u64.bits))).toNat : Int))) fun v3 =>
                some ((v3, IntKind.i64.wrap (IntKind.i64.wrap (t1 + t8) + 1), 0)))
                (ih ((t0, t1, IntKind.u64.wrap (↑(BitVec.ofInt IntKind.u64.bits t7 ||| BitVec.ofInt IntKind.u64.bits (IntKind.u64.wrap (IntKind.u64.wrap (IntKind.u8.wrap (↑(BitVec.ofInt IntKind.u8.bits (↑(t0.getD (IntKind.i64.wrap (t1 + t8)).toNat 0).toNat : Int) &&& BitVec.ofInt IntKind.u8.bits 127).toNat : Int)) * 2 ^ min (IntKind.i64.wrap (7 * t8)).toNat IntKind.u64.bits))).toNat : Int), IntKind.i64.wrap (t8 + 1)), ())))
              (none)))
          (cond (!decide (IntKind.i64.wrap (7 * t8) < 0))
            (cond (decide ((↑(t0.getD (IntKind.i64.wrap (t1 + t8)).toNat 0).toNat : Int) < 128))
              (Option.bind (g56 (IntKind.u64.wrap (↑(BitVec.ofInt IntKind.u64.bits t7 ||| BitVec.ofInt IntKind.u64.bits (IntKind.u64.wrap (IntKind.u64.wrap (IntKind.u8.wrap (↑(BitVec.ofInt IntKind.u8.bits (↑(t0.getD (IntKind.i64.wrap (t1 + t8)).toNat 0).toNat : Int) &&& BitVec.ofInt IntKind.u8.bits 127).toNat : Int)) * 2 ^ min (IntKind.i64.wrap (7 * t8)).toNat IntKind.u64.bits))).toNat : Int))) fun v4 =>
              some ((v4, IntKind.i64.wrap (IntKind.i64.wrap (t1 + t8) + 1), 0)))
              (ih ((t0, t1, IntKind.u64.wrap (↑(BitVec.ofInt IntKind.u64.bits t7 ||| BitVec.ofInt IntKind.u64.bits (IntKind.u64.wrap (IntKind.u64.wrap (IntKind.u8.wrap (↑(BitVec.ofInt IntKind.u8.bits (↑(t0.getD (IntKind.i64.wrap (t1 + t8)).toNat 0).toNat : Int) &&& BitVec.ofInt IntKind.u8.bits 127).toNat : Int)) * 2 ^ min (IntKind.i64.wrap (7 * t8)).toNat IntKind.u64.bits))).toNat : Int), IntKind.i64.wrap (t8 + 1)), ())))
            (none))))
      (none))
noncomputable def h23_0 : ((List UInt8 × Int × Int × Int) × (Unit)) → Option ((Int × Int × Int)) := loopN st23_0 fuel
noncomputable def l23_0 : LI D23 := ⟨ns23_0, ex23_0, h23_0⟩
noncomputable def lv23 : Nat → Option (LI D23) := fun q => if q = 6 then some l23_0 else (fun _ => none) q
noncomputable def g23 (a0 : List UInt8) (a1 : Int) : Option (Int × Int × Int) :=
  cond (decide (a1 < 0))
    (some ((0, 0, 1)))
    (cond (decide (a1 > (↑a0.length : Int)))
      (some ((0, 0, 1)))
      (Option.bind (h23_0 ((a0, a1, 0, 0), ())) fun v1 =>
      some (v1)))
noncomputable def i23 : FI := ⟨ps23, .tup (.pr (.ty (.i .i64)) (.pr (.ty (.i .i64)) (.ty (.i .i64)))), fun (a0, a1) => g23 a0 a1⟩
theorem s23_0 : st23_0 = stepEval T Y env23 an lv23 (finO T true ps23 (.tup (.pr (.ty (.i .i64)) (.pr (.ty (.i .i64)) (.ty (.i .i64))))) Try.f23.results.toList) (loopAt c23 0) ns23_0 ex23_0 := by kernel_rfl
theorem e23 : (fun a => i23.G a) = fnEval T Y env23 an i23.ps i23.rs true Try.f23.results.toList lv23 c23 := by kernel_rfl
theorem lo23 : loopsOf c23 = [loopAt c23 0] := by kernel_rfl
theorem ll23 : LoopsOk T Y env23 an lv23 (finO T true ps23 (.tup (.pr (.ty (.i .i64)) (.pr (.ty (.i .i64)) (.ty (.i .i64))))) Try.f23.results.toList) c23 := loopsOk_of (by rw [lo23]; exact ⟨loop1 (li := l23_0) (by kernel_rfl) (by kernel_rfl) s23_0, trivial⟩)
theorem k23 : FnOk Try.prog 23 i23 :=
  fn_ok (T := T) (Y := Y) (an := an) (env := env23) (fr := true) (lenv := lv23) mixed tok.1 tok.2 (envCons k56 (envNil)) (fn := Try.f23) (c := c23) (by kernel_rfl) (by kernel_rfl) (by kernel_rfl) ll23 (fun a => congrFun e23 a)
/-! ### broker/frame.Sum -/
noncomputable def c35 : Code := Try.f35.body.getD .skip
noncomputable def env35 : Env := mkEnv []
abbrev ps35 : List PSh := [.d (.sl .u8)]
abbrev D35 : Type := pairD (.ty (.i .i64)) (osOf ps35)
def ns35_0 : NS := { slots := [(3, .ty (.i .u32)), (6, .ty (.sl .u8)), (7, .ty (.i .i64)), (8, .ty (.i .i64))], roots := [] }
def ex35_0 : List (Nat × NS) := [(0, { slots := [(3, .ty (.i .u32))], roots := [] })]
noncomputable def st35_0 (ih : ((Int × List UInt8 × Int × Int) × (Unit)) → Option (((Int) × (Unit)) ⊕ Int)) : ((Int × List UInt8 × Int × Int) × (Unit)) → Option (((Int) × (Unit)) ⊕ Int) := fun ((t3, t6, t7, t8), ()) =>
  cond (decide (t8 < t7))
    (cond (decide (0 ≤ t8) && decide (t8 < (↑t6.length : Int)))
      (ih ((IntKind.u32.wrap (IntKind.u32.wrap (↑(BitVec.ofInt IntKind.u32.bits t3 ^^^ BitVec.ofInt IntKind.u32.bits (IntKind.u32.wrap (↑(t6.getD t8.toNat 0).toNat : Int))).toNat : Int) * 16777619), t6, t7, IntKind.i64.wrap (t8 + 1)), ()))
      (none))
    (some (Sum.inl (t3, ())))
noncomputable def h35_0 : ((Int × List UInt8 × Int × Int) × (Unit)) → Option (((Int) × (Unit)) ⊕ Int) := loopN st35_0 fuel
noncomputable def l35_0 : LI D35 := ⟨ns35_0, ex35_0, h35_0⟩
noncomputable def lv35 : Nat → Option (LI D35) := fun q => if q = 3 then some l35_0 else (fun _ => none) q
noncomputable def g35 (a0 : List UInt8) : Option (Int) :=
  Option.bind (h35_0 ((2166136261, a0, (↑a0.length : Int), 0), ())) fun v1 =>
  match v1 with
  | .inl x2 =>
    some (IntKind.i64.wrap x2.1)
  | .inr x2 =>
    some (x2)
noncomputable def i35 : FI := ⟨ps35, .ty (.i .i64), fun a0 => g35 a0⟩
theorem s35_0 : st35_0 = stepEval T Y env35 an lv35 (finO T true ps35 (.ty (.i .i64)) Try.f35.results.toList) (loopAt c35 0) ns35_0 ex35_0 := by kernel_rfl
theorem e35 : (fun a => i35.G a) = fnEval T Y env35 an i35.ps i35.rs true Try.f35.results.toList lv35 c35 := by kernel_rfl
theorem lo35 : loopsOf c35 = [loopAt c35 0] := by kernel_rfl
theorem ll35 : LoopsOk T Y env35 an lv35 (finO T true ps35 (.ty (.i .i64)) Try.f35.results.toList) c35 := loopsOk_of (by rw [lo35]; exact ⟨loop1 (li := l35_0) (by kernel_rfl) (by kernel_rfl) s35_0, trivial⟩)
theorem k35 : FnOk Try.prog 35 i35 :=
  fn_ok (T := T) (Y := Y) (an := an) (env := env35) (fr := true) (lenv := lv35) mixed tok.1 tok.2 (envNil) (fn := Try.f35) (c := c35) (by kernel_rfl) (by kernel_rfl) (by kernel_rfl) ll35 (fun a => congrFun e35 a)
/-! ### broker/frame.Wrap -/
noncomputable def c37 : Code := Try.f37.body.getD .skip
noncomputable def env37 : Env := mkEnv [(35, i35), (21, i21)]
abbrev ps37 : List PSh := [.d (.sl .u8)]
abbrev D37 : Type := pairD (.ow 1 .u8) (osOf ps37)
noncomputable def lv37 : Nat → Option (LI D37) := fun _ => none
noncomputable def g37 (a0 : List UInt8) : Option (List UInt8) :=
  cond (decide ((↑a0.length : Int) > 65536))
    (some ([]))
    (Option.bind (g35 a0) fun v1 =>
    Option.bind (g21 [] (↑a0.length : Int)) fun v2 =>
    cond (decide (0 ≤ IntKind.u8.wrap (Int.fdiv v1 (2 ^ min (Int.toNat 24) IntKind.i64.bits))) && decide (IntKind.u8.wrap (Int.fdiv v1 (2 ^ min (Int.toNat 24) IntKind.i64.bits)) ≤ 255) && (decide (0 ≤ IntKind.u8.wrap (Int.fdiv v1 (2 ^ min (Int.toNat 16) IntKind.i64.bits))) && decide (IntKind.u8.wrap (Int.fdiv v1 (2 ^ min (Int.toNat 16) IntKind.i64.bits)) ≤ 255) && (decide (0 ≤ IntKind.u8.wrap (Int.fdiv v1 (2 ^ min (Int.toNat 8) IntKind.i64.bits))) && decide (IntKind.u8.wrap (Int.fdiv v1 (2 ^ min (Int.toNat 8) IntKind.i64.bits)) ≤ 255) && (decide (0 ≤ IntKind.u8.wrap v1) && decide (IntKind.u8.wrap v1 ≤ 255) && true))))
      (cond (decide (List.length v2 + 4 ≤ 2147483647))
        (cond (decide ((v2 ++ [UInt8.ofNat (IntKind.u8.wrap (Int.fdiv v1 (2 ^ min (Int.toNat 24) IntKind.i64.bits))).toNat, UInt8.ofNat (IntKind.u8.wrap (Int.fdiv v1 (2 ^ min (Int.toNat 16) IntKind.i64.bits))).toNat, UInt8.ofNat (IntKind.u8.wrap (Int.fdiv v1 (2 ^ min (Int.toNat 8) IntKind.i64.bits))).toNat, UInt8.ofNat (IntKind.u8.wrap v1).toNat]).length + a0.length ≤ 2147483647))
          (some (v2 ++ [UInt8.ofNat (IntKind.u8.wrap (Int.fdiv v1 (2 ^ min (Int.toNat 24) IntKind.i64.bits))).toNat, UInt8.ofNat (IntKind.u8.wrap (Int.fdiv v1 (2 ^ min (Int.toNat 16) IntKind.i64.bits))).toNat, UInt8.ofNat (IntKind.u8.wrap (Int.fdiv v1 (2 ^ min (Int.toNat 8) IntKind.i64.bits))).toNat, UInt8.ofNat (IntKind.u8.wrap v1).toNat] ++ a0))
          (none))
        (none))
      (none))
noncomputable def i37 : FI := ⟨ps37, .ow 1 .u8, fun a0 => g37 a0⟩
theorem e37 : (fun a => i37.G a) = fnEval T Y env37 an i37.ps i37.rs false Try.f37.results.toList lv37 c37 := by kernel_rfl
theorem lo37 : loopsOf c37 = [] := by kernel_rfl
theorem ll37 : LoopsOk T Y env37 an lv37 (finO T false ps37 (.ow 1 .u8) Try.f37.results.toList) c37 := loopsOk_of (by rw [lo37]; exact trivial)
theorem k37 : FnOk Try.prog 37 i37 :=
  fn_ok (T := T) (Y := Y) (an := an) (env := env37) (fr := false) (lenv := lv37) mixed tok.1 tok.2 (envCons k35 (envCons k21 (envNil))) (fn := Try.f37) (c := c37) (by kernel_rfl) (by kernel_rfl) (by kernel_rfl) ll37 (fun a => congrFun e37 a)
/-! ### broker/frame.Size -/
noncomputable def c39 : Code := Try.f39.body.getD .skip
noncomputable def env39 : Env := mkEnv [(21, i21)]
abbrev ps39 : List PSh := [.d (.i .i64)]
abbrev D39 : Type := pairD (.ty (.i .i64)) (osOf ps39)
noncomputable def lv39 : Nat → Option (LI D39) := fun _ => none
noncomputable def g39 (a0 : Int) : Option (Int) :=
  cond (decide (a0 < 0))
    (some (0))
    (cond (decide (a0 > 65536))
      (some (0))
      (Option.bind (g21 [] a0) fun v1 =>
      some (IntKind.i64.wrap (IntKind.i64.wrap ((↑(List.length v1) : Int) + 4) + a0))))
noncomputable def i39 : FI := ⟨ps39, .ty (.i .i64), fun a0 => g39 a0⟩
theorem e39 : (fun a => i39.G a) = fnEval T Y env39 an i39.ps i39.rs true Try.f39.results.toList lv39 c39 := by kernel_rfl
theorem lo39 : loopsOf c39 = [] := by kernel_rfl
theorem ll39 : LoopsOk T Y env39 an lv39 (finO T true ps39 (.ty (.i .i64)) Try.f39.results.toList) c39 := loopsOk_of (by rw [lo39]; exact trivial)
theorem k39 : FnOk Try.prog 39 i39 :=
  fn_ok (T := T) (Y := Y) (an := an) (env := env39) (fr := true) (lenv := lv39) mixed tok.1 tok.2 (envCons k21 (envNil)) (fn := Try.f39) (c := c39) (by kernel_rfl) (by kernel_rfl) (by kernel_rfl) ll39 (fun a => congrFun e39 a)
/-! ### broker/frame.Next -/
noncomputable def c41 : Code := Try.f41.body.getD .skip
noncomputable def env41 : Env := mkEnv [(23, i23), (35, i35)]
abbrev ps41 : List PSh := [.d (.sl .u8), .d (.i .i64)]
abbrev D41 : Type := pairD (.tup (.pr (.ty (.sl .u8)) (.pr (.ty (.i .i64)) (.ty (.i .i64))))) (osOf ps41)
noncomputable def lv41 : Nat → Option (LI D41) := fun _ => none
noncomputable def g41 (a0 : List UInt8) (a1 : Int) : Option (List UInt8 × Int × Int) :=
  Option.bind (g23 a0 a1) fun v1 =>
  cond (v1.2.2 != 0)
    (some (([], 0, v1.2.2)))
    (cond (decide (v1.1 < 0))
      (some (([], 0, 2)))
      (cond (decide (v1.1 > 65536))
        (some (([], 0, 5)))
        (cond (decide (IntKind.i64.wrap ((↑a0.length : Int) - v1.2.1) < IntKind.i64.wrap (4 + v1.1)))
          (some (([], 0, 3)))
          (cond (decide (0 ≤ IntKind.i64.wrap (v1.2.1 + 4)) && decide (IntKind.i64.wrap (v1.2.1 + 4) ≤ (↑a0.length : Int)) && (decide (0 ≤ v1.2.1) && decide (v1.2.1 ≤ IntKind.i64.wrap (v1.2.1 + 4))) && decide (IntKind.i64.wrap (v1.2.1 + 4) = (↑(IntKind.i64.wrap (v1.2.1 + 4)).toNat : Int)))
            (cond (decide (0 ≤ v1.1) && decide (v1.1 ≤ v1.1) && decide (v1.1 ≤ 2147483647))
              (cond (decide (0 ≤ IntKind.i64.wrap (IntKind.i64.wrap (v1.2.1 + 4) + v1.1)) && decide (IntKind.i64.wrap (IntKind.i64.wrap (v1.2.1 + 4) + v1.1) ≤ (↑a0.length : Int)) && (decide (0 ≤ IntKind.i64.wrap (v1.2.1 + 4)) && decide (IntKind.i64.wrap (v1.2.1 + 4) ≤ IntKind.i64.wrap (IntKind.i64.wrap (v1.2.1 + 4) + v1.1))) && true)
                (cond (decide (0 + (List.replicate (Int.toNat v1.1) (UInt8.ofNat (Int.toNat 0))).length ≤ (List.replicate (Int.toNat v1.1) (UInt8.ofNat (Int.toNat 0))).length))
                  (cond (decide (0 ≤ 0) && decide (0 < (↑(List.drop (Int.toNat v1.2.1) (List.take (IntKind.i64.wrap (v1.2.1 + 4)).toNat a0)).length : Int)))
                    (cond (decide (0 ≤ 1) && decide (1 < (↑(List.drop (Int.toNat v1.2.1) (List.take (IntKind.i64.wrap (v1.2.1 + 4)).toNat a0)).length : Int)))
                      (cond (decide (0 ≤ 2) && decide (2 < (↑(List.drop (Int.toNat v1.2.1) (List.take (IntKind.i64.wrap (v1.2.1 + 4)).toNat a0)).length : Int)))
                        (cond (decide (0 ≤ 3) && decide (3 < (↑(List.drop (Int.toNat v1.2.1) (List.take (IntKind.i64.wrap (v1.2.1 + 4)).toNat a0)).length : Int)))
                          (Option.bind (g35 (List.take 0 (List.replicate (Int.toNat v1.1) (UInt8.ofNat (Int.toNat 0))) ++ (List.take (List.replicate (Int.toNat v1.1) (UInt8.ofNat (Int.toNat 0))).length (List.drop (IntKind.i64.wrap (v1.2.1 + 4)).toNat (List.take (IntKind.i64.wrap (IntKind.i64.wrap (v1.2.1 + 4) + v1.1)).toNat a0)) ++ List.drop (0 + (List.take (List.replicate (Int.toNat v1.1) (UInt8.ofNat (Int.toNat 0))).length (List.drop (IntKind.i64.wrap (v1.2.1 + 4)).toNat (List.take (IntKind.i64.wrap (IntKind.i64.wrap (v1.2.1 + 4) + v1.1)).toNat a0))).length) (List.replicate (Int.toNat v1.1) (UInt8.ofNat (Int.toNat 0)))))) fun v2 =>
                          cond (IntKind.i64.wrap (↑(BitVec.ofInt IntKind.i64.bits (IntKind.i64.wrap (↑(BitVec.ofInt IntKind.i64.bits (IntKind.i64.wrap (↑(BitVec.ofInt IntKind.i64.bits (IntKind.i64.wrap (IntKind.i64.wrap (↑((List.drop (Int.toNat v1.2.1) (List.take (IntKind.i64.wrap (v1.2.1 + 4)).toNat a0)).getD (Int.toNat 0) 0).toNat : Int) * 2 ^ min (Int.toNat 24) IntKind.i64.bits)) ||| BitVec.ofInt IntKind.i64.bits (IntKind.i64.wrap (IntKind.i64.wrap (↑((List.drop (Int.toNat v1.2.1) (List.take (IntKind.i64.wrap (v1.2.1 + 4)).toNat a0)).getD (Int.toNat 1) 0).toNat : Int) * 2 ^ min (Int.toNat 16) IntKind.i64.bits))).toNat : Int)) ||| BitVec.ofInt IntKind.i64.bits (IntKind.i64.wrap (IntKind.i64.wrap (↑((List.drop (Int.toNat v1.2.1) (List.take (IntKind.i64.wrap (v1.2.1 + 4)).toNat a0)).getD (Int.toNat 2) 0).toNat : Int) * 2 ^ min (Int.toNat 8) IntKind.i64.bits))).toNat : Int)) ||| BitVec.ofInt IntKind.i64.bits (IntKind.i64.wrap (↑((List.drop (Int.toNat v1.2.1) (List.take (IntKind.i64.wrap (v1.2.1 + 4)).toNat a0)).getD (Int.toNat 3) 0).toNat : Int))).toNat : Int) != v2)
                            (some (([], 0, 4)))
                            (some ((List.take 0 (List.replicate (Int.toNat v1.1) (UInt8.ofNat (Int.toNat 0))) ++ (List.take (List.replicate (Int.toNat v1.1) (UInt8.ofNat (Int.toNat 0))).length (List.drop (IntKind.i64.wrap (v1.2.1 + 4)).toNat (List.take (IntKind.i64.wrap (IntKind.i64.wrap (v1.2.1 + 4) + v1.1)).toNat a0)) ++ List.drop (0 + (List.take (List.replicate (Int.toNat v1.1) (UInt8.ofNat (Int.toNat 0))).length (List.drop (IntKind.i64.wrap (v1.2.1 + 4)).toNat (List.take (IntKind.i64.wrap (IntKind.i64.wrap (v1.2.1 + 4) + v1.1)).toNat a0))).length) (List.replicate (Int.toNat v1.1) (UInt8.ofNat (Int.toNat 0)))), IntKind.i64.wrap (IntKind.i64.wrap (v1.2.1 + 4) + v1.1), 0))))
                          (none))
                        (none))
                      (none))
                    (none))
                  (none))
                (none))
              (none))
            (none)))))
noncomputable def i41 : FI := ⟨ps41, .tup (.pr (.ty (.sl .u8)) (.pr (.ty (.i .i64)) (.ty (.i .i64)))), fun (a0, a1) => g41 a0 a1⟩
theorem e41 : (fun a => i41.G a) = fnEval T Y env41 an i41.ps i41.rs true Try.f41.results.toList lv41 c41 := by kernel_rfl
theorem lo41 : loopsOf c41 = [] := by kernel_rfl
theorem ll41 : LoopsOk T Y env41 an lv41 (finO T true ps41 (.tup (.pr (.ty (.sl .u8)) (.pr (.ty (.i .i64)) (.ty (.i .i64))))) Try.f41.results.toList) c41 := loopsOk_of (by rw [lo41]; exact trivial)
theorem k41 : FnOk Try.prog 41 i41 :=
  fn_ok (T := T) (Y := Y) (an := an) (env := env41) (fr := true) (lenv := lv41) mixed tok.1 tok.2 (envCons k23 (envCons k35 (envNil))) (fn := Try.f41) (c := c41) (by kernel_rfl) (by kernel_rfl) (by kernel_rfl) ll41 (fun a => congrFun e41 a)
/-! ### broker/pack.PutText -/
noncomputable def c26 : Code := Try.f26.body.getD .skip
noncomputable def env26 : Env := mkEnv [(54, i54), (53, i53)]
abbrev ps26 : List PSh := [.d (.sl .u8), .d .s]
abbrev D26 : Type := pairD (.ow 1 .u8) (osOf ps26)
noncomputable def lv26 : Nat → Option (LI D26) := fun _ => none
noncomputable def g26 (a0 : List UInt8) (a1 : List UInt8) : Option (List UInt8) :=
  Option.bind (g54 a0 (IntKind.i64.wrap (10 + (↑a1.length : Int)))) fun v1 =>
  Option.bind (g53 v1 (↑a1.length : Int)) fun v2 =>
  cond (decide (List.length v2 + a1.length ≤ 2147483647))
    (some (v2 ++ a1))
    (none)
noncomputable def i26 : FI := ⟨ps26, .ow 1 .u8, fun (a0, a1) => g26 a0 a1⟩
theorem e26 : (fun a => i26.G a) = fnEval T Y env26 an i26.ps i26.rs false Try.f26.results.toList lv26 c26 := by kernel_rfl
theorem lo26 : loopsOf c26 = [] := by kernel_rfl
theorem ll26 : LoopsOk T Y env26 an lv26 (finO T false ps26 (.ow 1 .u8) Try.f26.results.toList) c26 := loopsOk_of (by rw [lo26]; exact trivial)
theorem k26 : FnOk Try.prog 26 i26 :=
  fn_ok (T := T) (Y := Y) (an := an) (env := env26) (fr := false) (lenv := lv26) mixed tok.1 tok.2 (envCons k54 (envCons k53 (envNil))) (fn := Try.f26) (c := c26) (by kernel_rfl) (by kernel_rfl) (by kernel_rfl) ll26 (fun a => congrFun e26 a)
/-! ### broker/pack.Text -/
noncomputable def c43 : Code := Try.f43.body.getD .skip
noncomputable def env43 : Env := mkEnv [(23, i23)]
abbrev ps43 : List PSh := [.d (.sl .u8), .d (.i .i64), .d (.i .i64)]
abbrev D43 : Type := pairD (.tup (.pr (.ty .s) (.pr (.ty (.i .i64)) (.ty (.i .i64))))) (osOf ps43)
noncomputable def lv43 : Nat → Option (LI D43) := fun _ => none
noncomputable def g43 (a0 : List UInt8) (a1 : Int) (a2 : Int) : Option (List UInt8 × Int × Int) :=
  Option.bind (g23 a0 a1) fun v1 =>
  cond (v1.2.2 != 0)
    (some (([], 0, v1.2.2)))
    (cond (decide (v1.1 < 0))
      (some (([], 0, 2)))
      (cond (decide (v1.1 > a2))
        (some (([], 0, 5)))
        (cond (decide (v1.1 > IntKind.i64.wrap ((↑a0.length : Int) - v1.2.1)))
          (some (([], 0, 3)))
          (cond (decide (0 ≤ IntKind.i64.wrap (v1.2.1 + v1.1)) && decide (IntKind.i64.wrap (v1.2.1 + v1.1) ≤ (↑a0.length : Int)) && (decide (0 ≤ v1.2.1) && decide (v1.2.1 ≤ IntKind.i64.wrap (v1.2.1 + v1.1))) && decide (IntKind.i64.wrap (v1.2.1 + v1.1) = (↑(IntKind.i64.wrap (v1.2.1 + v1.1)).toNat : Int)))
            (some ((List.drop (Int.toNat v1.2.1) (List.take (IntKind.i64.wrap (v1.2.1 + v1.1)).toNat a0), IntKind.i64.wrap (v1.2.1 + v1.1), 0)))
            (none)))))
noncomputable def i43 : FI := ⟨ps43, .tup (.pr (.ty .s) (.pr (.ty (.i .i64)) (.ty (.i .i64)))), fun (a0, a1, a2) => g43 a0 a1 a2⟩
theorem e43 : (fun a => i43.G a) = fnEval T Y env43 an i43.ps i43.rs true Try.f43.results.toList lv43 c43 := by kernel_rfl
theorem lo43 : loopsOf c43 = [] := by kernel_rfl
theorem ll43 : LoopsOk T Y env43 an lv43 (finO T true ps43 (.tup (.pr (.ty .s) (.pr (.ty (.i .i64)) (.ty (.i .i64))))) Try.f43.results.toList) c43 := loopsOk_of (by rw [lo43]; exact trivial)
theorem k43 : FnOk Try.prog 43 i43 :=
  fn_ok (T := T) (Y := Y) (an := an) (env := env43) (fr := true) (lenv := lv43) mixed tok.1 tok.2 (envCons k23 (envNil)) (fn := Try.f43) (c := c43) (by kernel_rfl) (by kernel_rfl) (by kernel_rfl) ll43 (fun a => congrFun e43 a)
end Go.Proofs.Ytkklehfcadkikaa.EVT
