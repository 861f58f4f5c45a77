/- What functions compute, as printed (U, part A). -/
import Derived.Test.YtbncnkchedhnpaaTv13
import Derived.Test.YtbncnkchedhnpaaUT
set_option linter.unusedVariables false
set_option maxRecDepth 100000
set_option maxHeartbeats 0
namespace Go.Proofs.Ytbncnkchedhnpaa.EVT
open Go Go.EV
/-! ### broker/pack.code -/
noncomputable def c77 : Code := Try.f77.body.getD .skip
noncomputable def env77 : Env := mkEnv []
abbrev ps77 : List PSh := [.d (.i .i64)]
abbrev D77 : Type := pairD (.ty (.i .u64)) (osOf ps77)
noncomputable def lv77 : Nat → Option (LI D77) := fun _ => none
noncomputable def g77 (a0 : Int) : Option (Int) :=
  some (IntKind.u64.wrap (↑(BitVec.ofInt IntKind.u64.bits (IntKind.u64.wrap (IntKind.u64.wrap a0 * 2 ^ min (Int.toNat 1) IntKind.u64.bits)) ^^^ BitVec.ofInt IntKind.u64.bits (IntKind.u64.wrap (a0.fdiv (2 ^ min (Int.toNat 63) IntKind.i64.bits)))).toNat : Int))
noncomputable def i77 : FI := ⟨ps77, .ty (.i .u64), fun a0 => g77 a0⟩
theorem e77 : (fun a => i77.G a) = fnEval T Y env77 an i77.ps i77.rs true Try.f77.results.toList lv77 c77 := by kernel_rfl
theorem lo77 : loopsOf c77 = [] := by kernel_rfl
theorem ll77 : LoopsOk T Y env77 an lv77 (finO T true ps77 (.ty (.i .u64)) Try.f77.results.toList) c77 := loopsOk_of (by rw [lo77]; exact trivial)
theorem k77 : FnOk Try.prog 77 i77 :=
  fn_ok (T := T) (Y := Y) (an := an) (env := env77) (fr := true) (lenv := lv77) mixed tok.1 tok.2 (envNil) (fn := Try.f77) (c := c77) (by kernel_rfl) (by kernel_rfl) (by kernel_rfl) ll77 (fun a => congrFun e77 a)
/-! ### broker/pack.add -/
noncomputable def c72 : Code := Try.f72.body.getD .skip
noncomputable def env72 : Env := mkEnv [(77, i77)]
abbrev ps72 : List PSh := [.ow (.ow 1 .u8), .d (.i .i64)]
abbrev D72 : Type := pairD (.ow 1 .u8) (osOf ps72)
def ns72_0 : NS := { slots := [(0, .hw 16), (5, .ty (.i .u64))], roots := [(16, .ar 1 .u8)], ad := [{ t := 0, path := [], g := 16, d := 1, τ := (.u8 : Ty) }] }
def ex72_0 : List (Nat × NS) := [(0, { slots := [(0, .hw 16), (5, .ty (.i .u64))], roots := [(16, .ar 1 .u8)] })]
noncomputable def st72_0 (ih : ((Int) × (List UInt8)) → Option (((Int) × (List UInt8)) ⊕ (List UInt8))) : ((Int) × (List UInt8)) → Option (((Int) × (List UInt8)) ⊕ (List UInt8)) := fun (t5, r16) =>
  cond (decide (t5 > 127))
    (cond (decide (0 ≤ IntKind.u8.wrap (↑(BitVec.ofInt IntKind.u8.bits (IntKind.u8.wrap (IntKind.u64.wrap (↑(BitVec.ofInt IntKind.u64.bits t5 &&& BitVec.ofInt IntKind.u64.bits 127).toNat : Int))) ||| BitVec.ofInt IntKind.u8.bits 128).toNat : Int)) && decide (IntKind.u8.wrap (↑(BitVec.ofInt IntKind.u8.bits (IntKind.u8.wrap (IntKind.u64.wrap (↑(BitVec.ofInt IntKind.u64.bits t5 &&& BitVec.ofInt IntKind.u64.bits 127).toNat : Int))) ||| BitVec.ofInt IntKind.u8.bits 128).toNat : Int) ≤ 255) && true)
      (cond (decide (r16.length + 1 ≤ 2147483647))
        (ih (t5.fdiv (2 ^ min (Int.toNat 7) IntKind.u64.bits), r16 ++ [UInt8.ofNat (IntKind.u8.wrap (↑(BitVec.ofInt IntKind.u8.bits (IntKind.u8.wrap (IntKind.u64.wrap (↑(BitVec.ofInt IntKind.u64.bits t5 &&& BitVec.ofInt IntKind.u64.bits 127).toNat : Int))) ||| BitVec.ofInt IntKind.u8.bits 128).toNat : Int)).toNat]))
        (none))
      (none))
    (some (Sum.inl (t5, r16)))
noncomputable def h72_0 : ((Int) × (List UInt8)) → Option (((Int) × (List UInt8)) ⊕ (List UInt8)) := loopN st72_0 fuel
noncomputable def l72_0 : LI D72 := ⟨ns72_0, ex72_0, h72_0⟩
noncomputable def lv72 : Nat → Option (LI D72) := fun q => if q = 2 then some l72_0 else (fun _ => none) q
noncomputable def g72 (a0 : List UInt8) (a1 : Int) : Option (List UInt8) :=
  Option.bind (g77 a1) fun v1 =>
  Option.bind (h72_0 (v1, a0)) fun v2 =>
  match v2 with
  | .inl x3 =>
    cond (decide (0 ≤ IntKind.u8.wrap x3.1) && decide (IntKind.u8.wrap x3.1 ≤ 255) && true)
      (cond (decide (List.length x3.2 + 1 ≤ 2147483647))
        (some (x3.2 ++ [UInt8.ofNat (IntKind.u8.wrap x3.1).toNat]))
        (none))
      (none)
  | .inr x3 =>
    some (x3)
noncomputable def i72 : FI := ⟨ps72, .ow 1 .u8, fun (a0, a1) => g72 a0 a1⟩
theorem s72_0 : st72_0 = stepEval T Y env72 an lv72 (finO T false ps72 (.ow 1 .u8) Try.f72.results.toList) (loopAt c72 0) ns72_0 ex72_0 := by kernel_rfl
theorem e72 : (fun a => i72.G a) = fnEval T Y env72 an i72.ps i72.rs false Try.f72.results.toList lv72 c72 := by kernel_rfl
theorem lo72 : loopsOf c72 = [loopAt c72 0] := by kernel_rfl
theorem ll72 : LoopsOk T Y env72 an lv72 (finO T false ps72 (.ow 1 .u8) Try.f72.results.toList) c72 := loopsOk_of (by rw [lo72]; exact ⟨loop1 (li := l72_0) (by kernel_rfl) (by kernel_rfl) s72_0, trivial⟩)
theorem k72 : FnOk Try.prog 72 i72 :=
  fn_ok (T := T) (Y := Y) (an := an) (env := env72) (fr := false) (lenv := lv72) mixed tok.1 tok.2 (envCons k77 (envNil)) (fn := Try.f72) (c := c72) (by kernel_rfl) (by kernel_rfl) (by kernel_rfl) ll72 (fun a => congrFun e72 a)
/-! ### broker/pack.owned -/
noncomputable def c73 : Code := Try.f73.body.getD .skip
noncomputable def env73 : Env := mkEnv []
abbrev ps73 : List PSh := [.d (.sl .u8), .d (.i .i64)]
abbrev D73 : Type := pairD (.ow 1 .u8) (osOf ps73)
noncomputable def lv73 : Nat → Option (LI D73) := fun _ => none
noncomputable def g73 (a0 : List UInt8) (a1 : Int) : Option (List UInt8) :=
  cond (decide (0 ≤ (↑a0.length : Int)) && decide ((↑a0.length : Int) ≤ IntKind.i64.wrap ((↑a0.length : Int) + a1)) && decide (IntKind.i64.wrap ((↑a0.length : Int) + a1) ≤ 2147483647))
    (cond (decide (0 + (List.replicate (↑a0.length : Int).toNat (UInt8.ofNat (Int.toNat 0))).length ≤ (List.replicate (↑a0.length : Int).toNat (UInt8.ofNat (Int.toNat 0))).length))
      (some (List.take 0 (List.replicate (↑a0.length : Int).toNat (UInt8.ofNat (Int.toNat 0))) ++ (List.take (List.replicate (↑a0.length : Int).toNat (UInt8.ofNat (Int.toNat 0))).length a0 ++ List.drop (0 + (List.take (List.replicate (↑a0.length : Int).toNat (UInt8.ofNat (Int.toNat 0))).length a0).length) (List.replicate (↑a0.length : Int).toNat (UInt8.ofNat (Int.toNat 0))))))
      (none))
    (none)
noncomputable def i73 : FI := ⟨ps73, .ow 1 .u8, fun (a0, a1) => g73 a0 a1⟩
theorem e73 : (fun a => i73.G a) = fnEval T Y env73 an i73.ps i73.rs false Try.f73.results.toList lv73 c73 := by kernel_rfl
theorem lo73 : loopsOf c73 = [] := by kernel_rfl
theorem ll73 : LoopsOk T Y env73 an lv73 (finO T false ps73 (.ow 1 .u8) Try.f73.results.toList) c73 := loopsOk_of (by rw [lo73]; exact trivial)
theorem k73 : FnOk Try.prog 73 i73 :=
  fn_ok (T := T) (Y := Y) (an := an) (env := env73) (fr := false) (lenv := lv73) mixed tok.1 tok.2 (envNil) (fn := Try.f73) (c := c73) (by kernel_rfl) (by kernel_rfl) (by kernel_rfl) ll73 (fun a => congrFun e73 a)
/-! ### broker/pack.PutNum -/
noncomputable def c61 : Code := Try.f61.body.getD .skip
noncomputable def env61 : Env := mkEnv [(73, i73), (72, i72)]
abbrev ps61 : List PSh := [.d (.sl .u8), .d (.i .i64)]
abbrev D61 : Type := pairD (.ow 1 .u8) (osOf ps61)
noncomputable def lv61 : Nat → Option (LI D61) := fun _ => none
noncomputable def g61 (a0 : List UInt8) (a1 : Int) : Option (List UInt8) :=
  Option.bind (g73 a0 10) fun v1 =>
  Option.bind (g72 v1 a1) fun v2 =>
  some (v2)
noncomputable def i61 : FI := ⟨ps61, .ow 1 .u8, fun (a0, a1) => g61 a0 a1⟩
theorem e61 : (fun a => i61.G a) = fnEval T Y env61 an i61.ps i61.rs false Try.f61.results.toList lv61 c61 := by kernel_rfl
theorem lo61 : loopsOf c61 = [] := by kernel_rfl
theorem ll61 : LoopsOk T Y env61 an lv61 (finO T false ps61 (.ow 1 .u8) Try.f61.results.toList) c61 := loopsOk_of (by rw [lo61]; exact trivial)
theorem k61 : FnOk Try.prog 61 i61 :=
  fn_ok (T := T) (Y := Y) (an := an) (env := env61) (fr := false) (lenv := lv61) mixed tok.1 tok.2 (envCons k73 (envCons k72 (envNil))) (fn := Try.f61) (c := c61) (by kernel_rfl) (by kernel_rfl) (by kernel_rfl) ll61 (fun a => congrFun e61 a)
/-! ### broker/pack.PutText -/
noncomputable def c63 : Code := Try.f63.body.getD .skip
noncomputable def env63 : Env := mkEnv [(73, i73), (72, i72)]
abbrev ps63 : List PSh := [.d (.sl .u8), .d .s]
abbrev D63 : Type := pairD (.ow 1 .u8) (osOf ps63)
noncomputable def lv63 : Nat → Option (LI D63) := fun _ => none
noncomputable def g63 (a0 : List UInt8) (a1 : List UInt8) : Option (List UInt8) :=
  Option.bind (g73 a0 (IntKind.i64.wrap (10 + (↑a1.length : Int)))) fun v1 =>
  Option.bind (g72 v1 (↑a1.length : Int)) fun v2 =>
  cond (decide (List.length v2 + a1.length ≤ 2147483647))
    (some (v2 ++ a1))
    (none)
noncomputable def i63 : FI := ⟨ps63, .ow 1 .u8, fun (a0, a1) => g63 a0 a1⟩
theorem e63 : (fun a => i63.G a) = fnEval T Y env63 an i63.ps i63.rs false Try.f63.results.toList lv63 c63 := by kernel_rfl
theorem lo63 : loopsOf c63 = [] := by kernel_rfl
theorem ll63 : LoopsOk T Y env63 an lv63 (finO T false ps63 (.ow 1 .u8) Try.f63.results.toList) c63 := loopsOk_of (by rw [lo63]; exact trivial)
theorem k63 : FnOk Try.prog 63 i63 :=
  fn_ok (T := T) (Y := Y) (an := an) (env := env63) (fr := false) (lenv := lv63) mixed tok.1 tok.2 (envCons k73 (envCons k72 (envNil))) (fn := Try.f63) (c := c63) (by kernel_rfl) (by kernel_rfl) (by kernel_rfl) ll63 (fun a => congrFun e63 a)
/-! ### broker/pack.number -/
noncomputable def c75 : Code := Try.f75.body.getD .skip
noncomputable def env75 : Env := mkEnv []
abbrev ps75 : List PSh := [.d (.i .u64)]
abbrev D75 : Type := pairD (.ty (.i .i64)) (osOf ps75)
noncomputable def lv75 : Nat → Option (LI D75) := fun _ => none
noncomputable def g75 (a0 : Int) : Option (Int) :=
  cond (IntKind.u64.wrap (↑(BitVec.ofInt IntKind.u64.bits a0 &&& BitVec.ofInt IntKind.u64.bits 1).toNat : Int) == 1)
    (some (IntKind.i64.wrap (IntKind.i64.wrap (0 - IntKind.i64.wrap (a0.fdiv (2 ^ min (Int.toNat 1) IntKind.u64.bits))) - 1)))
    (some (IntKind.i64.wrap (a0.fdiv (2 ^ min (Int.toNat 1) IntKind.u64.bits))))
noncomputable def i75 : FI := ⟨ps75, .ty (.i .i64), fun a0 => g75 a0⟩
theorem e75 : (fun a => i75.G a) = fnEval T Y env75 an i75.ps i75.rs true Try.f75.results.toList lv75 c75 := by kernel_rfl
theorem lo75 : loopsOf c75 = [] := by kernel_rfl
theorem ll75 : LoopsOk T Y env75 an lv75 (finO T true ps75 (.ty (.i .i64)) Try.f75.results.toList) c75 := loopsOk_of (by rw [lo75]; exact trivial)
theorem k75 : FnOk Try.prog 75 i75 :=
  fn_ok (T := T) (Y := Y) (an := an) (env := env75) (fr := true) (lenv := lv75) mixed tok.1 tok.2 (envNil) (fn := Try.f75) (c := c75) (by kernel_rfl) (by kernel_rfl) (by kernel_rfl) ll75 (fun a => congrFun e75 a)
/-! ### broker/pack.Num -/
noncomputable def c65 : Code := Try.f65.body.getD .skip
noncomputable def env65 : Env := mkEnv [(75, i75)]
abbrev ps65 : List PSh := [.d (.sl .u8), .d (.i .i64)]
abbrev D65 : Type := pairD (.tup (.pr (.ty (.i .i64)) (.pr (.ty (.i .i64)) (.ty (.i .i64))))) (osOf ps65)
def ns65_0 : NS := { slots := [(0, .ty (.sl .u8)), (1, .ty (.i .i64)), (7, .ty (.i .u64)), (8, .ty (.i .i64))], roots := [] }
def ex65_0 : List (Nat × NS) := []
noncomputable def st65_0 (ih : ((List UInt8 × Int × Int × Int) × (Unit)) → Option ((Int × Int × Int))) : ((List UInt8 × Int × Int × Int) × (Unit)) → Option ((Int × Int × Int)) := fun ((t0, t1, t7, t8), ()) =>
  cond (IntKind.i64.wrap (t1 + t8) == (↑t0.length : Int))
    (some ((0, 0, 3)))
    (cond (decide (0 ≤ IntKind.i64.wrap (t1 + t8)) && decide (IntKind.i64.wrap (t1 + t8) < (↑t0.length : Int)))
      (cond (t8 == 9)
        (cond (decide ((↑(t0.getD (IntKind.i64.wrap (t1 + t8)).toNat 0).toNat : Int) > 1))
          (some ((0, 0, 2)))
          (cond (decide (t8 > 0))
            (cond ((↑(t0.getD (IntKind.i64.wrap (t1 + t8)).toNat 0).toNat : Int) == 0)
              (some ((0, 0, 2)))
              (cond (!decide (IntKind.i64.wrap (7 * t8) < 0))
                (cond (decide ((↑(t0.getD (IntKind.i64.wrap (t1 + t8)).toNat 0).toNat : Int) < 128))
                  (Option.bind (g75 (IntKind.u64.wrap (↑(BitVec.ofInt IntKind.u64.bits t7 ||| BitVec.ofInt IntKind.u64.bits (IntKind.u64.wrap (IntKind.u64.wrap (IntKind.u8.wrap (↑(BitVec.ofInt IntKind.u8.bits (↑(t0.getD (IntKind.i64.wrap (t1 + t8)).toNat 0).toNat : Int) &&& BitVec.ofInt IntKind.u8.bits 127).toNat : Int)) * 2 ^ min (IntKind.i64.wrap (7 * t8)).toNat IntKind.u64.bits))).toNat : Int))) fun v1 =>
                  some ((v1, IntKind.i64.wrap (IntKind.i64.wrap (t1 + t8) + 1), 0)))
                  (ih ((t0, t1, IntKind.u64.wrap (↑(BitVec.ofInt IntKind.u64.bits t7 ||| BitVec.ofInt IntKind.u64.bits (IntKind.u64.wrap (IntKind.u64.wrap (IntKind.u8.wrap (↑(BitVec.ofInt IntKind.u8.bits (↑(t0.getD (IntKind.i64.wrap (t1 + t8)).toNat 0).toNat : Int) &&& BitVec.ofInt IntKind.u8.bits 127).toNat : Int)) * 2 ^ min (IntKind.i64.wrap (7 * t8)).toNat IntKind.u64.bits))).toNat : Int), IntKind.i64.wrap (t8 + 1)), ())))
                (none)))
            (cond (!decide (IntKind.i64.wrap (7 * t8) < 0))
              (cond (decide ((↑(t0.getD (IntKind.i64.wrap (t1 + t8)).toNat 0).toNat : Int) < 128))
                (Option.bind (g75 (IntKind.u64.wrap (↑(BitVec.ofInt IntKind.u64.bits t7 ||| BitVec.ofInt IntKind.u64.bits (IntKind.u64.wrap (IntKind.u64.wrap (IntKind.u8.wrap (↑(BitVec.ofInt IntKind.u8.bits (↑(t0.getD (IntKind.i64.wrap (t1 + t8)).toNat 0).toNat : Int) &&& BitVec.ofInt IntKind.u8.bits 127).toNat : Int)) * 2 ^ min (IntKind.i64.wrap (7 * t8)).toNat IntKind.u64.bits))).toNat : Int))) fun v2 =>
                some ((v2, IntKind.i64.wrap (IntKind.i64.wrap (t1 + t8) + 1), 0)))
                (ih ((t0, t1, IntKind.u64.wrap (↑(BitVec.ofInt IntKind.u64.bits t7 ||| BitVec.ofInt IntKind.u64.bits (IntKind.u64.wrap (IntKind.u64.wrap (IntKind.u8.wrap (↑(BitVec.ofInt IntKind.u8.bits (↑(t0.getD (IntKind.i64.wrap (t1 + t8)).toNat 0).toNat : Int) &&& BitVec.ofInt IntKind.u8.bits 127).toNat : Int)) * 2 ^ min (IntKind.i64.wrap (7 * t8)).toNat IntKind.u64.bits))).toNat : Int), IntKind.i64.wrap (t8 + 1)), ())))
              (none))))
        (cond (decide (t8 > 0))
          (cond ((↑(t0.getD (IntKind.i64.wrap (t1 + t8)).toNat 0).toNat : Int) == 0)
            (some ((0, 0, 2)))
            (cond (!decide (IntKind.i64.wrap (7 * t8) < 0))
              (cond (decide ((↑(t0.getD (IntKind.i64.wrap (t1 + t8)).toNat 0).toNat : Int) < 128))
                (Option.bind (g75 (IntKind.u64.wrap (↑(BitVec.ofInt IntKind.u64.bits t7 ||| BitVec.ofInt IntKind.u64.bits (IntKind.u64.wrap (IntKind.u64.wrap (IntKind.u8.wrap (↑(BitVec.ofInt IntKind.u8.bits (↑(t0.getD (IntKind.i64.wrap (t1 + t8)).toNat 0).toNat : Int) &&& BitVec.ofInt IntKind.u8.bits 127).toNat : Int)) * 2 ^ min (IntKind.i64.wrap (7 * t8)).toNat IntKind.u64.bits))).toNat : Int))) fun v3 =>
                some ((v3, IntKind.i64.wrap (IntKind.i64.wrap (t1 + t8) + 1), 0)))
                (ih ((t0, t1, IntKind.u64.wrap (↑(BitVec.ofInt IntKind.u64.bits t7 ||| BitVec.ofInt IntKind.u64.bits (IntKind.u64.wrap (IntKind.u64.wrap (IntKind.u8.wrap (↑(BitVec.ofInt IntKind.u8.bits (↑(t0.getD (IntKind.i64.wrap (t1 + t8)).toNat 0).toNat : Int) &&& BitVec.ofInt IntKind.u8.bits 127).toNat : Int)) * 2 ^ min (IntKind.i64.wrap (7 * t8)).toNat IntKind.u64.bits))).toNat : Int), IntKind.i64.wrap (t8 + 1)), ())))
              (none)))
          (cond (!decide (IntKind.i64.wrap (7 * t8) < 0))
            (cond (decide ((↑(t0.getD (IntKind.i64.wrap (t1 + t8)).toNat 0).toNat : Int) < 128))
              (Option.bind (g75 (IntKind.u64.wrap (↑(BitVec.ofInt IntKind.u64.bits t7 ||| BitVec.ofInt IntKind.u64.bits (IntKind.u64.wrap (IntKind.u64.wrap (IntKind.u8.wrap (↑(BitVec.ofInt IntKind.u8.bits (↑(t0.getD (IntKind.i64.wrap (t1 + t8)).toNat 0).toNat : Int) &&& BitVec.ofInt IntKind.u8.bits 127).toNat : Int)) * 2 ^ min (IntKind.i64.wrap (7 * t8)).toNat IntKind.u64.bits))).toNat : Int))) fun v4 =>
              some ((v4, IntKind.i64.wrap (IntKind.i64.wrap (t1 + t8) + 1), 0)))
              (ih ((t0, t1, IntKind.u64.wrap (↑(BitVec.ofInt IntKind.u64.bits t7 ||| BitVec.ofInt IntKind.u64.bits (IntKind.u64.wrap (IntKind.u64.wrap (IntKind.u8.wrap (↑(BitVec.ofInt IntKind.u8.bits (↑(t0.getD (IntKind.i64.wrap (t1 + t8)).toNat 0).toNat : Int) &&& BitVec.ofInt IntKind.u8.bits 127).toNat : Int)) * 2 ^ min (IntKind.i64.wrap (7 * t8)).toNat IntKind.u64.bits))).toNat : Int), IntKind.i64.wrap (t8 + 1)), ())))
            (none))))
      (none))
noncomputable def h65_0 : ((List UInt8 × Int × Int × Int) × (Unit)) → Option ((Int × Int × Int)) := loopN st65_0 fuel
noncomputable def l65_0 : LI D65 := ⟨ns65_0, ex65_0, h65_0⟩
noncomputable def lv65 : Nat → Option (LI D65) := fun q => if q = 6 then some l65_0 else (fun _ => none) q
noncomputable def g65 (a0 : List UInt8) (a1 : Int) : Option (Int × Int × Int) :=
  cond (decide (a1 < 0))
    (some ((0, 0, 1)))
    (cond (decide (a1 > (↑a0.length : Int)))
      (some ((0, 0, 1)))
      (Option.bind (h65_0 ((a0, a1, 0, 0), ())) fun v1 =>
      some (v1)))
noncomputable def i65 : FI := ⟨ps65, .tup (.pr (.ty (.i .i64)) (.pr (.ty (.i .i64)) (.ty (.i .i64)))), fun (a0, a1) => g65 a0 a1⟩
theorem s65_0 : st65_0 = stepEval T Y env65 an lv65 (finO T true ps65 (.tup (.pr (.ty (.i .i64)) (.pr (.ty (.i .i64)) (.ty (.i .i64))))) Try.f65.results.toList) (loopAt c65 0) ns65_0 ex65_0 := by kernel_rfl
theorem e65 : (fun a => i65.G a) = fnEval T Y env65 an i65.ps i65.rs true Try.f65.results.toList lv65 c65 := by kernel_rfl
theorem lo65 : loopsOf c65 = [loopAt c65 0] := by kernel_rfl
theorem ll65 : LoopsOk T Y env65 an lv65 (finO T true ps65 (.tup (.pr (.ty (.i .i64)) (.pr (.ty (.i .i64)) (.ty (.i .i64))))) Try.f65.results.toList) c65 := loopsOk_of (by rw [lo65]; exact ⟨loop1 (li := l65_0) (by kernel_rfl) (by kernel_rfl) s65_0, trivial⟩)
theorem k65 : FnOk Try.prog 65 i65 :=
  fn_ok (T := T) (Y := Y) (an := an) (env := env65) (fr := true) (lenv := lv65) mixed tok.1 tok.2 (envCons k75 (envNil)) (fn := Try.f65) (c := c65) (by kernel_rfl) (by kernel_rfl) (by kernel_rfl) ll65 (fun a => congrFun e65 a)
/-! ### broker/pack.Text -/
noncomputable def c66 : Code := Try.f66.body.getD .skip
noncomputable def env66 : Env := mkEnv [(65, i65)]
abbrev ps66 : List PSh := [.d (.sl .u8), .d (.i .i64), .d (.i .i64)]
abbrev D66 : Type := pairD (.tup (.pr (.ty .s) (.pr (.ty (.i .i64)) (.ty (.i .i64))))) (osOf ps66)
noncomputable def lv66 : Nat → Option (LI D66) := fun _ => none
noncomputable def g66 (a0 : List UInt8) (a1 : Int) (a2 : Int) : Option (List UInt8 × Int × Int) :=
  Option.bind (g65 a0 a1) fun v1 =>
  cond (v1.2.2 != 0)
    (some (([], 0, v1.2.2)))
    (cond (decide (v1.1 < 0))
      (some (([], 0, 2)))
      (cond (decide (v1.1 > a2))
        (some (([], 0, 5)))
        (cond (decide (v1.1 > IntKind.i64.wrap ((↑a0.length : Int) - v1.2.1)))
          (some (([], 0, 3)))
          (cond (decide (0 ≤ IntKind.i64.wrap (v1.2.1 + v1.1)) && decide (IntKind.i64.wrap (v1.2.1 + v1.1) ≤ (↑a0.length : Int)) && (decide (0 ≤ v1.2.1) && decide (v1.2.1 ≤ IntKind.i64.wrap (v1.2.1 + v1.1))) && decide (IntKind.i64.wrap (v1.2.1 + v1.1) = (↑(IntKind.i64.wrap (v1.2.1 + v1.1)).toNat : Int)))
            (some ((List.drop (Int.toNat v1.2.1) (List.take (IntKind.i64.wrap (v1.2.1 + v1.1)).toNat a0), IntKind.i64.wrap (v1.2.1 + v1.1), 0)))
            (none)))))
noncomputable def i66 : FI := ⟨ps66, .tup (.pr (.ty .s) (.pr (.ty (.i .i64)) (.ty (.i .i64)))), fun (a0, a1, a2) => g66 a0 a1 a2⟩
theorem e66 : (fun a => i66.G a) = fnEval T Y env66 an i66.ps i66.rs true Try.f66.results.toList lv66 c66 := by kernel_rfl
theorem lo66 : loopsOf c66 = [] := by kernel_rfl
theorem ll66 : LoopsOk T Y env66 an lv66 (finO T true ps66 (.tup (.pr (.ty .s) (.pr (.ty (.i .i64)) (.ty (.i .i64))))) Try.f66.results.toList) c66 := loopsOk_of (by rw [lo66]; exact trivial)
theorem k66 : FnOk Try.prog 66 i66 :=
  fn_ok (T := T) (Y := Y) (an := an) (env := env66) (fr := true) (lenv := lv66) mixed tok.1 tok.2 (envCons k65 (envNil)) (fn := Try.f66) (c := c66) (by kernel_rfl) (by kernel_rfl) (by kernel_rfl) ll66 (fun a => congrFun e66 a)
/-! ### broker/frame.Sum -/
noncomputable def c74 : Code := Try.f74.body.getD .skip
noncomputable def env74 : Env := mkEnv []
abbrev ps74 : List PSh := [.d (.sl .u8)]
abbrev D74 : Type := pairD (.ty (.i .i64)) (osOf ps74)
def ns74_0 : NS := { slots := [(3, .ty (.i .u32)), (6, .ty (.sl .u8)), (7, .ty (.i .i64)), (8, .ty (.i .i64))], roots := [] }
def ex74_0 : List (Nat × NS) := [(0, { slots := [(3, .ty (.i .u32))], roots := [] })]
noncomputable def st74_0 (ih : ((Int × List UInt8 × Int × Int) × (Unit)) → Option (((Int) × (Unit)) ⊕ Int)) : ((Int × List UInt8 × Int × Int) × (Unit)) → Option (((Int) × (Unit)) ⊕ Int) := fun ((t3, t6, t7, t8), ()) =>
  cond (decide (t8 < t7))
    (cond (decide (0 ≤ t8) && decide (t8 < (↑t6.length : Int)))
      (ih ((IntKind.u32.wrap (IntKind.u32.wrap (↑(BitVec.ofInt IntKind.u32.bits t3 ^^^ BitVec.ofInt IntKind.u32.bits (IntKind.u32.wrap (↑(t6.getD t8.toNat 0).toNat : Int))).toNat : Int) * 16777619), t6, t7, IntKind.i64.wrap (t8 + 1)), ()))
      (none))
    (some (Sum.inl (t3, ())))
noncomputable def h74_0 : ((Int × List UInt8 × Int × Int) × (Unit)) → Option (((Int) × (Unit)) ⊕ Int) := loopN st74_0 fuel
noncomputable def l74_0 : LI D74 := ⟨ns74_0, ex74_0, h74_0⟩
noncomputable def lv74 : Nat → Option (LI D74) := fun q => if q = 3 then some l74_0 else (fun _ => none) q
noncomputable def g74 (a0 : List UInt8) : Option (Int) :=
  Option.bind (h74_0 ((2166136261, a0, (↑a0.length : Int), 0), ())) fun v1 =>
  match v1 with
  | .inl x2 =>
    some (IntKind.i64.wrap x2.1)
  | .inr x2 =>
    some (x2)
noncomputable def i74 : FI := ⟨ps74, .ty (.i .i64), fun a0 => g74 a0⟩
theorem s74_0 : st74_0 = stepEval T Y env74 an lv74 (finO T true ps74 (.ty (.i .i64)) Try.f74.results.toList) (loopAt c74 0) ns74_0 ex74_0 := by kernel_rfl
theorem e74 : (fun a => i74.G a) = fnEval T Y env74 an i74.ps i74.rs true Try.f74.results.toList lv74 c74 := by kernel_rfl
theorem lo74 : loopsOf c74 = [loopAt c74 0] := by kernel_rfl
theorem ll74 : LoopsOk T Y env74 an lv74 (finO T true ps74 (.ty (.i .i64)) Try.f74.results.toList) c74 := loopsOk_of (by rw [lo74]; exact ⟨loop1 (li := l74_0) (by kernel_rfl) (by kernel_rfl) s74_0, trivial⟩)
theorem k74 : FnOk Try.prog 74 i74 :=
  fn_ok (T := T) (Y := Y) (an := an) (env := env74) (fr := true) (lenv := lv74) mixed tok.1 tok.2 (envNil) (fn := Try.f74) (c := c74) (by kernel_rfl) (by kernel_rfl) (by kernel_rfl) ll74 (fun a => congrFun e74 a)
/-! ### broker/frame.Wrap -/
noncomputable def c62 : Code := Try.f62.body.getD .skip
noncomputable def env62 : Env := mkEnv [(74, i74), (61, i61)]
abbrev ps62 : List PSh := [.d (.sl .u8)]
abbrev D62 : Type := pairD (.ow 1 .u8) (osOf ps62)
noncomputable def lv62 : Nat → Option (LI D62) := fun _ => none
noncomputable def g62 (a0 : List UInt8) : Option (List UInt8) :=
  cond (decide ((↑a0.length : Int) > 65536))
    (some ([]))
    (Option.bind (g74 a0) fun v1 =>
    Option.bind (g61 [] (↑a0.length : Int)) fun v2 =>
    cond (decide (0 ≤ IntKind.u8.wrap (Int.fdiv v1 (2 ^ min (Int.toNat 24) IntKind.i64.bits))) && decide (IntKind.u8.wrap (Int.fdiv v1 (2 ^ min (Int.toNat 24) IntKind.i64.bits)) ≤ 255) && (decide (0 ≤ IntKind.u8.wrap (Int.fdiv v1 (2 ^ min (Int.toNat 16) IntKind.i64.bits))) && decide (IntKind.u8.wrap (Int.fdiv v1 (2 ^ min (Int.toNat 16) IntKind.i64.bits)) ≤ 255) && (decide (0 ≤ IntKind.u8.wrap (Int.fdiv v1 (2 ^ min (Int.toNat 8) IntKind.i64.bits))) && decide (IntKind.u8.wrap (Int.fdiv v1 (2 ^ min (Int.toNat 8) IntKind.i64.bits)) ≤ 255) && (decide (0 ≤ IntKind.u8.wrap v1) && decide (IntKind.u8.wrap v1 ≤ 255) && true))))
      (cond (decide (List.length v2 + 4 ≤ 2147483647))
        (cond (decide ((v2 ++ [UInt8.ofNat (IntKind.u8.wrap (Int.fdiv v1 (2 ^ min (Int.toNat 24) IntKind.i64.bits))).toNat, UInt8.ofNat (IntKind.u8.wrap (Int.fdiv v1 (2 ^ min (Int.toNat 16) IntKind.i64.bits))).toNat, UInt8.ofNat (IntKind.u8.wrap (Int.fdiv v1 (2 ^ min (Int.toNat 8) IntKind.i64.bits))).toNat, UInt8.ofNat (IntKind.u8.wrap v1).toNat]).length + a0.length ≤ 2147483647))
          (some (v2 ++ [UInt8.ofNat (IntKind.u8.wrap (Int.fdiv v1 (2 ^ min (Int.toNat 24) IntKind.i64.bits))).toNat, UInt8.ofNat (IntKind.u8.wrap (Int.fdiv v1 (2 ^ min (Int.toNat 16) IntKind.i64.bits))).toNat, UInt8.ofNat (IntKind.u8.wrap (Int.fdiv v1 (2 ^ min (Int.toNat 8) IntKind.i64.bits))).toNat, UInt8.ofNat (IntKind.u8.wrap v1).toNat] ++ a0))
          (none))
        (none))
      (none))
noncomputable def i62 : FI := ⟨ps62, .ow 1 .u8, fun a0 => g62 a0⟩
theorem e62 : (fun a => i62.G a) = fnEval T Y env62 an i62.ps i62.rs false Try.f62.results.toList lv62 c62 := by kernel_rfl
theorem lo62 : loopsOf c62 = [] := by kernel_rfl
theorem ll62 : LoopsOk T Y env62 an lv62 (finO T false ps62 (.ow 1 .u8) Try.f62.results.toList) c62 := loopsOk_of (by rw [lo62]; exact trivial)
theorem k62 : FnOk Try.prog 62 i62 :=
  fn_ok (T := T) (Y := Y) (an := an) (env := env62) (fr := false) (lenv := lv62) mixed tok.1 tok.2 (envCons k74 (envCons k61 (envNil))) (fn := Try.f62) (c := c62) (by kernel_rfl) (by kernel_rfl) (by kernel_rfl) ll62 (fun a => congrFun e62 a)
/-! ### broker/frame.Next -/
noncomputable def c64 : Code := Try.f64.body.getD .skip
noncomputable def env64 : Env := mkEnv [(65, i65), (74, i74)]
abbrev ps64 : List PSh := [.d (.sl .u8), .d (.i .i64)]
abbrev D64 : Type := pairD (.tup (.pr (.ty (.sl .u8)) (.pr (.ty (.i .i64)) (.ty (.i .i64))))) (osOf ps64)
noncomputable def lv64 : Nat → Option (LI D64) := fun _ => none
noncomputable def g64 (a0 : List UInt8) (a1 : Int) : Option (List UInt8 × Int × Int) :=
  Option.bind (g65 a0 a1) fun v1 =>
  cond (v1.2.2 != 0)
    (some (([], 0, v1.2.2)))
    (cond (decide (v1.1 < 0))
      (some (([], 0, 2)))
      (cond (decide (v1.1 > 65536))
        (some (([], 0, 5)))
        (cond (decide (IntKind.i64.wrap ((↑a0.length : Int) - v1.2.1) < IntKind.i64.wrap (4 + v1.1)))
          (some (([], 0, 3)))
          (cond (decide (0 ≤ IntKind.i64.wrap (v1.2.1 + 4)) && decide (IntKind.i64.wrap (v1.2.1 + 4) ≤ (↑a0.length : Int)) && (decide (0 ≤ v1.2.1) && decide (v1.2.1 ≤ IntKind.i64.wrap (v1.2.1 + 4))) && decide (IntKind.i64.wrap (v1.2.1 + 4) = (↑(IntKind.i64.wrap (v1.2.1 + 4)).toNat : Int)))
            (cond (decide (0 ≤ v1.1) && decide (v1.1 ≤ v1.1) && decide (v1.1 ≤ 2147483647))
              (cond (decide (0 ≤ IntKind.i64.wrap (IntKind.i64.wrap (v1.2.1 + 4) + v1.1)) && decide (IntKind.i64.wrap (IntKind.i64.wrap (v1.2.1 + 4) + v1.1) ≤ (↑a0.length : Int)) && (decide (0 ≤ IntKind.i64.wrap (v1.2.1 + 4)) && decide (IntKind.i64.wrap (v1.2.1 + 4) ≤ IntKind.i64.wrap (IntKind.i64.wrap (v1.2.1 + 4) + v1.1))) && true)
                (cond (decide (0 + (List.replicate (Int.toNat v1.1) (UInt8.ofNat (Int.toNat 0))).length ≤ (List.replicate (Int.toNat v1.1) (UInt8.ofNat (Int.toNat 0))).length))
                  (cond (decide (0 ≤ 0) && decide (0 < (↑(List.drop (Int.toNat v1.2.1) (List.take (IntKind.i64.wrap (v1.2.1 + 4)).toNat a0)).length : Int)))
                    (cond (decide (0 ≤ 1) && decide (1 < (↑(List.drop (Int.toNat v1.2.1) (List.take (IntKind.i64.wrap (v1.2.1 + 4)).toNat a0)).length : Int)))
                      (cond (decide (0 ≤ 2) && decide (2 < (↑(List.drop (Int.toNat v1.2.1) (List.take (IntKind.i64.wrap (v1.2.1 + 4)).toNat a0)).length : Int)))
                        (cond (decide (0 ≤ 3) && decide (3 < (↑(List.drop (Int.toNat v1.2.1) (List.take (IntKind.i64.wrap (v1.2.1 + 4)).toNat a0)).length : Int)))
                          (Option.bind (g74 (List.take 0 (List.replicate (Int.toNat v1.1) (UInt8.ofNat (Int.toNat 0))) ++ (List.take (List.replicate (Int.toNat v1.1) (UInt8.ofNat (Int.toNat 0))).length (List.drop (IntKind.i64.wrap (v1.2.1 + 4)).toNat (List.take (IntKind.i64.wrap (IntKind.i64.wrap (v1.2.1 + 4) + v1.1)).toNat a0)) ++ List.drop (0 + (List.take (List.replicate (Int.toNat v1.1) (UInt8.ofNat (Int.toNat 0))).length (List.drop (IntKind.i64.wrap (v1.2.1 + 4)).toNat (List.take (IntKind.i64.wrap (IntKind.i64.wrap (v1.2.1 + 4) + v1.1)).toNat a0))).length) (List.replicate (Int.toNat v1.1) (UInt8.ofNat (Int.toNat 0)))))) fun v2 =>
                          cond (IntKind.i64.wrap (↑(BitVec.ofInt IntKind.i64.bits (IntKind.i64.wrap (↑(BitVec.ofInt IntKind.i64.bits (IntKind.i64.wrap (↑(BitVec.ofInt IntKind.i64.bits (IntKind.i64.wrap (IntKind.i64.wrap (↑((List.drop (Int.toNat v1.2.1) (List.take (IntKind.i64.wrap (v1.2.1 + 4)).toNat a0)).getD (Int.toNat 0) 0).toNat : Int) * 2 ^ min (Int.toNat 24) IntKind.i64.bits)) ||| BitVec.ofInt IntKind.i64.bits (IntKind.i64.wrap (IntKind.i64.wrap (↑((List.drop (Int.toNat v1.2.1) (List.take (IntKind.i64.wrap (v1.2.1 + 4)).toNat a0)).getD (Int.toNat 1) 0).toNat : Int) * 2 ^ min (Int.toNat 16) IntKind.i64.bits))).toNat : Int)) ||| BitVec.ofInt IntKind.i64.bits (IntKind.i64.wrap (IntKind.i64.wrap (↑((List.drop (Int.toNat v1.2.1) (List.take (IntKind.i64.wrap (v1.2.1 + 4)).toNat a0)).getD (Int.toNat 2) 0).toNat : Int) * 2 ^ min (Int.toNat 8) IntKind.i64.bits))).toNat : Int)) ||| BitVec.ofInt IntKind.i64.bits (IntKind.i64.wrap (↑((List.drop (Int.toNat v1.2.1) (List.take (IntKind.i64.wrap (v1.2.1 + 4)).toNat a0)).getD (Int.toNat 3) 0).toNat : Int))).toNat : Int) != v2)
                            (some (([], 0, 4)))
                            (some ((List.take 0 (List.replicate (Int.toNat v1.1) (UInt8.ofNat (Int.toNat 0))) ++ (List.take (List.replicate (Int.toNat v1.1) (UInt8.ofNat (Int.toNat 0))).length (List.drop (IntKind.i64.wrap (v1.2.1 + 4)).toNat (List.take (IntKind.i64.wrap (IntKind.i64.wrap (v1.2.1 + 4) + v1.1)).toNat a0)) ++ List.drop (0 + (List.take (List.replicate (Int.toNat v1.1) (UInt8.ofNat (Int.toNat 0))).length (List.drop (IntKind.i64.wrap (v1.2.1 + 4)).toNat (List.take (IntKind.i64.wrap (IntKind.i64.wrap (v1.2.1 + 4) + v1.1)).toNat a0))).length) (List.replicate (Int.toNat v1.1) (UInt8.ofNat (Int.toNat 0)))), IntKind.i64.wrap (IntKind.i64.wrap (v1.2.1 + 4) + v1.1), 0))))
                          (none))
                        (none))
                      (none))
                    (none))
                  (none))
                (none))
              (none))
            (none)))))
noncomputable def i64 : FI := ⟨ps64, .tup (.pr (.ty (.sl .u8)) (.pr (.ty (.i .i64)) (.ty (.i .i64)))), fun (a0, a1) => g64 a0 a1⟩
theorem e64 : (fun a => i64.G a) = fnEval T Y env64 an i64.ps i64.rs true Try.f64.results.toList lv64 c64 := by kernel_rfl
theorem lo64 : loopsOf c64 = [] := by kernel_rfl
theorem ll64 : LoopsOk T Y env64 an lv64 (finO T true ps64 (.tup (.pr (.ty (.sl .u8)) (.pr (.ty (.i .i64)) (.ty (.i .i64))))) Try.f64.results.toList) c64 := loopsOk_of (by rw [lo64]; exact trivial)
theorem k64 : FnOk Try.prog 64 i64 :=
  fn_ok (T := T) (Y := Y) (an := an) (env := env64) (fr := true) (lenv := lv64) mixed tok.1 tok.2 (envCons k65 (envCons k74 (envNil))) (fn := Try.f64) (c := c64) (by kernel_rfl) (by kernel_rfl) (by kernel_rfl) ll64 (fun a => congrFun e64 a)
/-! ### broker/brokerref03.code -/
noncomputable def c70 : Code := Try.f70.body.getD .skip
noncomputable def env70 : Env := mkEnv []
abbrev ps70 : List PSh := [.d (.i .i64)]
abbrev D70 : Type := pairD (.ty (.i .u64)) (osOf ps70)
noncomputable def lv70 : Nat → Option (LI D70) := fun _ => none
noncomputable def g70 (a0 : Int) : Option (Int) :=
  cond (decide (a0 ≥ 0))
    (some (IntKind.u64.wrap (IntKind.u64.wrap a0 * 2)))
    (some (IntKind.u64.wrap (IntKind.u64.wrap (IntKind.u64.wrap (IntKind.i64.wrap (0 - IntKind.i64.wrap (a0 + 1))) * 2) + 1)))
noncomputable def i70 : FI := ⟨ps70, .ty (.i .u64), fun a0 => g70 a0⟩
theorem e70 : (fun a => i70.G a) = fnEval T Y env70 an i70.ps i70.rs true Try.f70.results.toList lv70 c70 := by kernel_rfl
theorem lo70 : loopsOf c70 = [] := by kernel_rfl
theorem ll70 : LoopsOk T Y env70 an lv70 (finO T true ps70 (.ty (.i .u64)) Try.f70.results.toList) c70 := loopsOk_of (by rw [lo70]; exact trivial)
theorem k70 : FnOk Try.prog 70 i70 :=
  fn_ok (T := T) (Y := Y) (an := an) (env := env70) (fr := true) (lenv := lv70) mixed tok.1 tok.2 (envNil) (fn := Try.f70) (c := c70) (by kernel_rfl) (by kernel_rfl) (by kernel_rfl) ll70 (fun a => congrFun e70 a)
/-! ### broker/brokerref03.PutNum -/
noncomputable def c55 : Code := Try.f55.body.getD .skip
noncomputable def env55 : Env := mkEnv [(70, i70)]
abbrev ps55 : List PSh := [.d (.sl .u8), .d (.i .i64)]
abbrev D55 : Type := pairD (.ow 1 .u8) (osOf ps55)
def ns55_0 : NS := { slots := [(5, .hw 20), (6, .ty (.i .u64))], roots := [(20, .ar 1 .u8)], ad := [{ t := 5, path := [], g := 20, d := 1, τ := (.u8 : Ty) }] }
def ex55_0 : List (Nat × NS) := [(0, { slots := [(5, .hw 20), (6, .ty (.i .u64))], roots := [(20, .ar 1 .u8)] })]
noncomputable def st55_0 (ih : ((Int) × (List UInt8)) → Option (((Int) × (List UInt8)) ⊕ (List UInt8))) : ((Int) × (List UInt8)) → Option (((Int) × (List UInt8)) ⊕ (List UInt8)) := fun (t6, r20) =>
  cond (decide (t6 ≥ 128))
    (cond (decide (0 ≤ IntKind.u8.wrap (IntKind.u8.wrap (t6.tmod 128) + 128)) && decide (IntKind.u8.wrap (IntKind.u8.wrap (t6.tmod 128) + 128) ≤ 255) && true)
      (cond (decide (r20.length + 1 ≤ 2147483647))
        (ih (IntKind.u64.wrap (t6.tdiv 128), r20 ++ [UInt8.ofNat (IntKind.u8.wrap (IntKind.u8.wrap (t6.tmod 128) + 128)).toNat]))
        (none))
      (none))
    (some (Sum.inl (t6, r20)))
noncomputable def h55_0 : ((Int) × (List UInt8)) → Option (((Int) × (List UInt8)) ⊕ (List UInt8)) := loopN st55_0 fuel
noncomputable def l55_0 : LI D55 := ⟨ns55_0, ex55_0, h55_0⟩
noncomputable def lv55 : Nat → Option (LI D55) := fun q => if q = 3 then some l55_0 else (fun _ => none) q
noncomputable def g55 (a0 : List UInt8) (a1 : Int) : Option (List UInt8) :=
  cond (decide (0 + a0.length ≤ 2147483647))
    (Option.bind (g70 a1) fun v1 =>
    Option.bind (h55_0 (v1, [] ++ a0)) fun v2 =>
    match v2 with
    | .inl x3 =>
      cond (decide (0 ≤ IntKind.u8.wrap x3.1) && decide (IntKind.u8.wrap x3.1 ≤ 255) && true)
        (cond (decide (List.length x3.2 + 1 ≤ 2147483647))
          (some (x3.2 ++ [UInt8.ofNat (IntKind.u8.wrap x3.1).toNat]))
          (none))
        (none)
    | .inr x3 =>
      some (x3))
    (none)
noncomputable def i55 : FI := ⟨ps55, .ow 1 .u8, fun (a0, a1) => g55 a0 a1⟩
theorem s55_0 : st55_0 = stepEval T Y env55 an lv55 (finO T false ps55 (.ow 1 .u8) Try.f55.results.toList) (loopAt c55 0) ns55_0 ex55_0 := by kernel_rfl
theorem e55 : (fun a => i55.G a) = fnEval T Y env55 an i55.ps i55.rs false Try.f55.results.toList lv55 c55 := by kernel_rfl
theorem lo55 : loopsOf c55 = [loopAt c55 0] := by kernel_rfl
theorem ll55 : LoopsOk T Y env55 an lv55 (finO T false ps55 (.ow 1 .u8) Try.f55.results.toList) c55 := loopsOk_of (by rw [lo55]; exact ⟨loop1 (li := l55_0) (by kernel_rfl) (by kernel_rfl) s55_0, trivial⟩)
theorem k55 : FnOk Try.prog 55 i55 :=
  fn_ok (T := T) (Y := Y) (an := an) (env := env55) (fr := false) (lenv := lv55) mixed tok.1 tok.2 (envCons k70 (envNil)) (fn := Try.f55) (c := c55) (by kernel_rfl) (by kernel_rfl) (by kernel_rfl) ll55 (fun a => congrFun e55 a)
/-! ### broker/brokerref03.PutText -/
noncomputable def c56 : Code := Try.f56.body.getD .skip
noncomputable def env56 : Env := mkEnv [(55, i55)]
abbrev ps56 : List PSh := [.d (.sl .u8), .d .s]
abbrev D56 : Type := pairD (.ow 1 .u8) (osOf ps56)
noncomputable def lv56 : Nat → Option (LI D56) := fun _ => none
noncomputable def g56 (a0 : List UInt8) (a1 : List UInt8) : Option (List UInt8) :=
  Option.bind (g55 a0 (↑a1.length : Int)) fun v1 =>
  cond (decide (List.length v1 + a1.length ≤ 2147483647))
    (some (v1 ++ a1))
    (none)
noncomputable def i56 : FI := ⟨ps56, .ow 1 .u8, fun (a0, a1) => g56 a0 a1⟩
theorem e56 : (fun a => i56.G a) = fnEval T Y env56 an i56.ps i56.rs false Try.f56.results.toList lv56 c56 := by kernel_rfl
theorem lo56 : loopsOf c56 = [] := by kernel_rfl
theorem ll56 : LoopsOk T Y env56 an lv56 (finO T false ps56 (.ow 1 .u8) Try.f56.results.toList) c56 := loopsOk_of (by rw [lo56]; exact trivial)
theorem k56 : FnOk Try.prog 56 i56 :=
  fn_ok (T := T) (Y := Y) (an := an) (env := env56) (fr := false) (lenv := lv56) mixed tok.1 tok.2 (envCons k55 (envNil)) (fn := Try.f56) (c := c56) (by kernel_rfl) (by kernel_rfl) (by kernel_rfl) ll56 (fun a => congrFun e56 a)
/-! ### broker/brokerref03.number -/
noncomputable def c76 : Code := Try.f76.body.getD .skip
noncomputable def env76 : Env := mkEnv []
abbrev ps76 : List PSh := [.d (.i .u64)]
abbrev D76 : Type := pairD (.ty (.i .i64)) (osOf ps76)
noncomputable def lv76 : Nat → Option (LI D76) := fun _ => none
noncomputable def g76 (a0 : Int) : Option (Int) :=
  cond (a0.tmod 2 == 0)
    (some (IntKind.i64.wrap (IntKind.u64.wrap (a0.tdiv 2))))
    (some (IntKind.i64.wrap (IntKind.i64.wrap (0 - IntKind.i64.wrap (IntKind.u64.wrap (a0.tdiv 2))) - 1)))
noncomputable def i76 : FI := ⟨ps76, .ty (.i .i64), fun a0 => g76 a0⟩
theorem e76 : (fun a => i76.G a) = fnEval T Y env76 an i76.ps i76.rs true Try.f76.results.toList lv76 c76 := by kernel_rfl
theorem lo76 : loopsOf c76 = [] := by kernel_rfl
theorem ll76 : LoopsOk T Y env76 an lv76 (finO T true ps76 (.ty (.i .i64)) Try.f76.results.toList) c76 := loopsOk_of (by rw [lo76]; exact trivial)
theorem k76 : FnOk Try.prog 76 i76 :=
  fn_ok (T := T) (Y := Y) (an := an) (env := env76) (fr := true) (lenv := lv76) mixed tok.1 tok.2 (envNil) (fn := Try.f76) (c := c76) (by kernel_rfl) (by kernel_rfl) (by kernel_rfl) ll76 (fun a => congrFun e76 a)
/-! ### broker/brokerref03.Num -/
noncomputable def c68 : Code := Try.f68.body.getD .skip
noncomputable def env68 : Env := mkEnv [(76, i76)]
abbrev ps68 : List PSh := [.d (.sl .u8), .d (.i .i64)]
abbrev D68 : Type := pairD (.tup (.pr (.ty (.i .i64)) (.pr (.ty (.i .i64)) (.ty (.i .i64))))) (osOf ps68)
def ns68_0 : NS := { slots := [(0, .ty (.sl .u8)), (1, .ty (.i .i64)), (7, .ty (.i .u64)), (8, .ty (.i .u64)), (9, .ty (.i .i64))], roots := [] }
def ex68_0 : List (Nat × NS) := [(0, { slots := [], roots := [] })]
noncomputable def st68_0 (ih : ((List UInt8 × Int × Int × Int × Int) × (Unit)) → Option (((Unit) × (Unit)) ⊕ ((Int × Int × Int)))) : ((List UInt8 × Int × Int × Int × Int) × (Unit)) → Option (((Unit) × (Unit)) ⊕ ((Int × Int × Int))) := fun ((t0, t1, t7, t8, t9), ()) =>
  cond (decide (t9 < 10))
    (cond (decide (t9 ≥ IntKind.i64.wrap ((↑t0.length : Int) - t1)))
      (some (Sum.inr (0, 0, 3)))
      (cond (decide (0 ≤ IntKind.i64.wrap (t1 + t9)) && decide (IntKind.i64.wrap (t1 + t9) < (↑t0.length : Int)))
        (cond (t9 == 9)
          (cond ((↑(t0.getD (IntKind.i64.wrap (t1 + t9)).toNat 0).toNat : Int) != 1)
            (some (Sum.inr (0, 0, 2)))
            (cond (decide (t9 > 0))
              (cond ((↑(t0.getD (IntKind.i64.wrap (t1 + t9)).toNat 0).toNat : Int) == 0)
                (some (Sum.inr (0, 0, 2)))
                (cond (decide ((↑(t0.getD (IntKind.i64.wrap (t1 + t9)).toNat 0).toNat : Int) < 128))
                  (Option.bind (g76 (IntKind.u64.wrap (t7 + IntKind.u64.wrap (IntKind.u64.wrap ((↑(t0.getD (IntKind.i64.wrap (t1 + t9)).toNat 0).toNat : Int).tmod 128) * t8)))) fun v1 =>
                  some (Sum.inr (v1, IntKind.i64.wrap (IntKind.i64.wrap (t1 + t9) + 1), 0)))
                  (ih ((t0, t1, IntKind.u64.wrap (t7 + IntKind.u64.wrap (IntKind.u64.wrap ((↑(t0.getD (IntKind.i64.wrap (t1 + t9)).toNat 0).toNat : Int).tmod 128) * t8)), IntKind.u64.wrap (t8 * 128), IntKind.i64.wrap (t9 + 1)), ()))))
              (cond (decide ((↑(t0.getD (IntKind.i64.wrap (t1 + t9)).toNat 0).toNat : Int) < 128))
                (Option.bind (g76 (IntKind.u64.wrap (t7 + IntKind.u64.wrap (IntKind.u64.wrap ((↑(t0.getD (IntKind.i64.wrap (t1 + t9)).toNat 0).toNat : Int).tmod 128) * t8)))) fun v2 =>
                some (Sum.inr (v2, IntKind.i64.wrap (IntKind.i64.wrap (t1 + t9) + 1), 0)))
                (ih ((t0, t1, IntKind.u64.wrap (t7 + IntKind.u64.wrap (IntKind.u64.wrap ((↑(t0.getD (IntKind.i64.wrap (t1 + t9)).toNat 0).toNat : Int).tmod 128) * t8)), IntKind.u64.wrap (t8 * 128), IntKind.i64.wrap (t9 + 1)), ())))))
          (cond (decide (t9 > 0))
            (cond ((↑(t0.getD (IntKind.i64.wrap (t1 + t9)).toNat 0).toNat : Int) == 0)
              (some (Sum.inr (0, 0, 2)))
              (cond (decide ((↑(t0.getD (IntKind.i64.wrap (t1 + t9)).toNat 0).toNat : Int) < 128))
                (Option.bind (g76 (IntKind.u64.wrap (t7 + IntKind.u64.wrap (IntKind.u64.wrap ((↑(t0.getD (IntKind.i64.wrap (t1 + t9)).toNat 0).toNat : Int).tmod 128) * t8)))) fun v3 =>
                some (Sum.inr (v3, IntKind.i64.wrap (IntKind.i64.wrap (t1 + t9) + 1), 0)))
                (ih ((t0, t1, IntKind.u64.wrap (t7 + IntKind.u64.wrap (IntKind.u64.wrap ((↑(t0.getD (IntKind.i64.wrap (t1 + t9)).toNat 0).toNat : Int).tmod 128) * t8)), IntKind.u64.wrap (t8 * 128), IntKind.i64.wrap (t9 + 1)), ()))))
            (cond (decide ((↑(t0.getD (IntKind.i64.wrap (t1 + t9)).toNat 0).toNat : Int) < 128))
              (Option.bind (g76 (IntKind.u64.wrap (t7 + IntKind.u64.wrap (IntKind.u64.wrap ((↑(t0.getD (IntKind.i64.wrap (t1 + t9)).toNat 0).toNat : Int).tmod 128) * t8)))) fun v4 =>
              some (Sum.inr (v4, IntKind.i64.wrap (IntKind.i64.wrap (t1 + t9) + 1), 0)))
              (ih ((t0, t1, IntKind.u64.wrap (t7 + IntKind.u64.wrap (IntKind.u64.wrap ((↑(t0.getD (IntKind.i64.wrap (t1 + t9)).toNat 0).toNat : Int).tmod 128) * t8)), IntKind.u64.wrap (t8 * 128), IntKind.i64.wrap (t9 + 1)), ())))))
        (none)))
    (some (Sum.inl ((), ())))
noncomputable def h68_0 : ((List UInt8 × Int × Int × Int × Int) × (Unit)) → Option (((Unit) × (Unit)) ⊕ ((Int × Int × Int))) := loopN st68_0 fuel
noncomputable def l68_0 : LI D68 := ⟨ns68_0, ex68_0, h68_0⟩
noncomputable def lv68 : Nat → Option (LI D68) := fun q => if q = 6 then some l68_0 else (fun _ => none) q
noncomputable def g68 (a0 : List UInt8) (a1 : Int) : Option (Int × Int × Int) :=
  cond (decide (a1 < 0))
    (some ((0, 0, 1)))
    (cond (decide (a1 > (↑a0.length : Int)))
      (some ((0, 0, 1)))
      (Option.bind (h68_0 ((a0, a1, 0, 1, 0), ())) fun v1 =>
      match v1 with
      | .inl x2 =>
        some ((0, 0, 2))
      | .inr x2 =>
        some (x2)))
noncomputable def i68 : FI := ⟨ps68, .tup (.pr (.ty (.i .i64)) (.pr (.ty (.i .i64)) (.ty (.i .i64)))), fun (a0, a1) => g68 a0 a1⟩
theorem s68_0 : st68_0 = stepEval T Y env68 an lv68 (finO T true ps68 (.tup (.pr (.ty (.i .i64)) (.pr (.ty (.i .i64)) (.ty (.i .i64))))) Try.f68.results.toList) (loopAt c68 0) ns68_0 ex68_0 := by kernel_rfl
theorem e68 : (fun a => i68.G a) = fnEval T Y env68 an i68.ps i68.rs true Try.f68.results.toList lv68 c68 := by kernel_rfl
theorem lo68 : loopsOf c68 = [loopAt c68 0] := by kernel_rfl
theorem ll68 : LoopsOk T Y env68 an lv68 (finO T true ps68 (.tup (.pr (.ty (.i .i64)) (.pr (.ty (.i .i64)) (.ty (.i .i64))))) Try.f68.results.toList) c68 := loopsOk_of (by rw [lo68]; exact ⟨loop1 (li := l68_0) (by kernel_rfl) (by kernel_rfl) s68_0, trivial⟩)
theorem k68 : FnOk Try.prog 68 i68 :=
  fn_ok (T := T) (Y := Y) (an := an) (env := env68) (fr := true) (lenv := lv68) mixed tok.1 tok.2 (envCons k76 (envNil)) (fn := Try.f68) (c := c68) (by kernel_rfl) (by kernel_rfl) (by kernel_rfl) ll68 (fun a => congrFun e68 a)
/-! ### broker/brokerref03.Count -/
noncomputable def c67 : Code := Try.f67.body.getD .skip
noncomputable def env67 : Env := mkEnv [(68, i68)]
abbrev ps67 : List PSh := [.d (.sl .u8), .d (.i .i64), .d (.i .i64)]
abbrev D67 : Type := pairD (.tup (.pr (.ty (.i .i64)) (.pr (.ty (.i .i64)) (.ty (.i .i64))))) (osOf ps67)
noncomputable def lv67 : Nat → Option (LI D67) := fun _ => none
noncomputable def g67 (a0 : List UInt8) (a1 : Int) (a2 : Int) : Option (Int × Int × Int) :=
  Option.bind (g68 a0 a1) fun v1 =>
  cond (v1.2.2 != 0)
    (some ((0, 0, v1.2.2)))
    (cond (decide (v1.1 < 0))
      (some ((0, 0, 2)))
      (cond (decide (v1.1 > a2))
        (some ((0, 0, 5)))
        (some ((v1.1, v1.2.1, 0)))))
noncomputable def i67 : FI := ⟨ps67, .tup (.pr (.ty (.i .i64)) (.pr (.ty (.i .i64)) (.ty (.i .i64)))), fun (a0, a1, a2) => g67 a0 a1 a2⟩
theorem e67 : (fun a => i67.G a) = fnEval T Y env67 an i67.ps i67.rs true Try.f67.results.toList lv67 c67 := by kernel_rfl
theorem lo67 : loopsOf c67 = [] := by kernel_rfl
theorem ll67 : LoopsOk T Y env67 an lv67 (finO T true ps67 (.tup (.pr (.ty (.i .i64)) (.pr (.ty (.i .i64)) (.ty (.i .i64))))) Try.f67.results.toList) c67 := loopsOk_of (by rw [lo67]; exact trivial)
theorem k67 : FnOk Try.prog 67 i67 :=
  fn_ok (T := T) (Y := Y) (an := an) (env := env67) (fr := true) (lenv := lv67) mixed tok.1 tok.2 (envCons k68 (envNil)) (fn := Try.f67) (c := c67) (by kernel_rfl) (by kernel_rfl) (by kernel_rfl) ll67 (fun a => congrFun e67 a)
/-! ### broker/brokerref03.Text -/
noncomputable def c69 : Code := Try.f69.body.getD .skip
noncomputable def env69 : Env := mkEnv [(67, i67)]
abbrev ps69 : List PSh := [.d (.sl .u8), .d (.i .i64), .d (.i .i64)]
abbrev D69 : Type := pairD (.tup (.pr (.ty .s) (.pr (.ty (.i .i64)) (.ty (.i .i64))))) (osOf ps69)
noncomputable def lv69 : Nat → Option (LI D69) := fun _ => none
noncomputable def g69 (a0 : List UInt8) (a1 : Int) (a2 : Int) : Option (List UInt8 × Int × Int) :=
  Option.bind (g67 a0 a1 a2) fun v1 =>
  cond (v1.2.2 != 0)
    (some (([], 0, v1.2.2)))
    (cond (decide (v1.1 > IntKind.i64.wrap ((↑a0.length : Int) - v1.2.1)))
      (some (([], 0, 3)))
      (cond (decide (0 ≤ IntKind.i64.wrap (v1.2.1 + v1.1)) && decide (IntKind.i64.wrap (v1.2.1 + v1.1) ≤ (↑a0.length : Int)) && (decide (0 ≤ v1.2.1) && decide (v1.2.1 ≤ IntKind.i64.wrap (v1.2.1 + v1.1))) && true)
        (some ((List.drop (Int.toNat v1.2.1) (List.take (IntKind.i64.wrap (v1.2.1 + v1.1)).toNat a0), IntKind.i64.wrap (v1.2.1 + v1.1), 0)))
        (none)))
noncomputable def i69 : FI := ⟨ps69, .tup (.pr (.ty .s) (.pr (.ty (.i .i64)) (.ty (.i .i64)))), fun (a0, a1, a2) => g69 a0 a1 a2⟩
theorem e69 : (fun a => i69.G a) = fnEval T Y env69 an i69.ps i69.rs true Try.f69.results.toList lv69 c69 := by kernel_rfl
theorem lo69 : loopsOf c69 = [] := by kernel_rfl
theorem ll69 : LoopsOk T Y env69 an lv69 (finO T true ps69 (.tup (.pr (.ty .s) (.pr (.ty (.i .i64)) (.ty (.i .i64))))) Try.f69.results.toList) c69 := loopsOk_of (by rw [lo69]; exact trivial)
theorem k69 : FnOk Try.prog 69 i69 :=
  fn_ok (T := T) (Y := Y) (an := an) (env := env69) (fr := true) (lenv := lv69) mixed tok.1 tok.2 (envCons k67 (envNil)) (fn := Try.f69) (c := c69) (by kernel_rfl) (by kernel_rfl) (by kernel_rfl) ll69 (fun a => congrFun e69 a)
/-! ### broker/brokerref04.Sum -/
noncomputable def c71 : Code := Try.f71.body.getD .skip
noncomputable def env71 : Env := mkEnv []
abbrev ps71 : List PSh := [.d (.sl .u8)]
abbrev D71 : Type := pairD (.ty (.i .i64)) (osOf ps71)
def ns71_0 : NS := { slots := [(0, .ty (.sl .u8)), (3, .ty (.i .u64)), (4, .ty (.i .i64))], roots := [] }
def ex71_0 : List (Nat × NS) := [(0, { slots := [(3, .ty (.i .u64))], roots := [] })]
noncomputable def st71_0 (ih : ((List UInt8 × Int × Int) × (Unit)) → Option (((Int) × (Unit)) ⊕ Int)) : ((List UInt8 × Int × Int) × (Unit)) → Option (((Int) × (Unit)) ⊕ Int) := fun ((t0, t3, t4), ()) =>
  cond (decide (t4 < (↑t0.length : Int)))
    (cond (decide (0 ≤ t4) && decide (t4 < (↑t0.length : Int)))
      (ih ((t0, (IntKind.u64.wrap (IntKind.u64.wrap (↑(BitVec.ofInt IntKind.u64.bits t3 ^^^ BitVec.ofInt IntKind.u64.bits (IntKind.u64.wrap (↑(t0.getD t4.toNat 0).toNat : Int))).toNat : Int) * 16777619)).tmod 4294967296, IntKind.i64.wrap (t4 + 1)), ()))
      (none))
    (some (Sum.inl (t3, ())))
noncomputable def h71_0 : ((List UInt8 × Int × Int) × (Unit)) → Option (((Int) × (Unit)) ⊕ Int) := loopN st71_0 fuel
noncomputable def l71_0 : LI D71 := ⟨ns71_0, ex71_0, h71_0⟩
noncomputable def lv71 : Nat → Option (LI D71) := fun q => if q = 3 then some l71_0 else (fun _ => none) q
noncomputable def g71 (a0 : List UInt8) : Option (Int) :=
  Option.bind (h71_0 ((a0, 2166136261, 0), ())) fun v1 =>
  match v1 with
  | .inl x2 =>
    some (IntKind.i64.wrap x2.1)
  | .inr x2 =>
    some (x2)
noncomputable def i71 : FI := ⟨ps71, .ty (.i .i64), fun a0 => g71 a0⟩
theorem s71_0 : st71_0 = stepEval T Y env71 an lv71 (finO T true ps71 (.ty (.i .i64)) Try.f71.results.toList) (loopAt c71 0) ns71_0 ex71_0 := by kernel_rfl
theorem e71 : (fun a => i71.G a) = fnEval T Y env71 an i71.ps i71.rs true Try.f71.results.toList lv71 c71 := by kernel_rfl
theorem lo71 : loopsOf c71 = [loopAt c71 0] := by kernel_rfl
theorem ll71 : LoopsOk T Y env71 an lv71 (finO T true ps71 (.ty (.i .i64)) Try.f71.results.toList) c71 := loopsOk_of (by rw [lo71]; exact ⟨loop1 (li := l71_0) (by kernel_rfl) (by kernel_rfl) s71_0, trivial⟩)
theorem k71 : FnOk Try.prog 71 i71 :=
  fn_ok (T := T) (Y := Y) (an := an) (env := env71) (fr := true) (lenv := lv71) mixed tok.1 tok.2 (envNil) (fn := Try.f71) (c := c71) (by kernel_rfl) (by kernel_rfl) (by kernel_rfl) ll71 (fun a => congrFun e71 a)
/-! ### broker/brokerref04.Wrap -/
noncomputable def c57 : Code := Try.f57.body.getD .skip
noncomputable def env57 : Env := mkEnv [(71, i71), (55, i55)]
abbrev ps57 : List PSh := [.d (.sl .u8)]
abbrev D57 : Type := pairD (.ow 1 .u8) (osOf ps57)
noncomputable def lv57 : Nat → Option (LI D57) := fun _ => none
noncomputable def g57 (a0 : List UInt8) : Option (List UInt8) :=
  cond (decide ((↑a0.length : Int) > 65536))
    (some ([]))
    (Option.bind (g71 a0) fun v1 =>
    Option.bind (g55 [] (↑a0.length : Int)) fun v2 =>
    cond (decide (0 ≤ IntKind.u8.wrap (Int.fdiv v1 (2 ^ min (Int.toNat 24) IntKind.i64.bits))) && decide (IntKind.u8.wrap (Int.fdiv v1 (2 ^ min (Int.toNat 24) IntKind.i64.bits)) ≤ 255) && (decide (0 ≤ IntKind.u8.wrap (IntKind.i64.wrap (↑(BitVec.ofInt IntKind.i64.bits (Int.fdiv v1 (2 ^ min (Int.toNat 16) IntKind.i64.bits)) &&& BitVec.ofInt IntKind.i64.bits 255).toNat : Int))) && decide (IntKind.u8.wrap (IntKind.i64.wrap (↑(BitVec.ofInt IntKind.i64.bits (Int.fdiv v1 (2 ^ min (Int.toNat 16) IntKind.i64.bits)) &&& BitVec.ofInt IntKind.i64.bits 255).toNat : Int)) ≤ 255) && (decide (0 ≤ IntKind.u8.wrap (IntKind.i64.wrap (↑(BitVec.ofInt IntKind.i64.bits (Int.fdiv v1 (2 ^ min (Int.toNat 8) IntKind.i64.bits)) &&& BitVec.ofInt IntKind.i64.bits 255).toNat : Int))) && decide (IntKind.u8.wrap (IntKind.i64.wrap (↑(BitVec.ofInt IntKind.i64.bits (Int.fdiv v1 (2 ^ min (Int.toNat 8) IntKind.i64.bits)) &&& BitVec.ofInt IntKind.i64.bits 255).toNat : Int)) ≤ 255) && (decide (0 ≤ IntKind.u8.wrap (IntKind.i64.wrap (↑(BitVec.ofInt IntKind.i64.bits v1 &&& BitVec.ofInt IntKind.i64.bits 255).toNat : Int))) && decide (IntKind.u8.wrap (IntKind.i64.wrap (↑(BitVec.ofInt IntKind.i64.bits v1 &&& BitVec.ofInt IntKind.i64.bits 255).toNat : Int)) ≤ 255) && true))))
      (cond (decide (List.length v2 + 4 ≤ 2147483647))
        (cond (decide ((v2 ++ [UInt8.ofNat (IntKind.u8.wrap (Int.fdiv v1 (2 ^ min (Int.toNat 24) IntKind.i64.bits))).toNat, UInt8.ofNat (IntKind.u8.wrap (IntKind.i64.wrap (↑(BitVec.ofInt IntKind.i64.bits (Int.fdiv v1 (2 ^ min (Int.toNat 16) IntKind.i64.bits)) &&& BitVec.ofInt IntKind.i64.bits 255).toNat : Int))).toNat, UInt8.ofNat (IntKind.u8.wrap (IntKind.i64.wrap (↑(BitVec.ofInt IntKind.i64.bits (Int.fdiv v1 (2 ^ min (Int.toNat 8) IntKind.i64.bits)) &&& BitVec.ofInt IntKind.i64.bits 255).toNat : Int))).toNat, UInt8.ofNat (IntKind.u8.wrap (IntKind.i64.wrap (↑(BitVec.ofInt IntKind.i64.bits v1 &&& BitVec.ofInt IntKind.i64.bits 255).toNat : Int))).toNat]).length + a0.length ≤ 2147483647))
          (some (v2 ++ [UInt8.ofNat (IntKind.u8.wrap (Int.fdiv v1 (2 ^ min (Int.toNat 24) IntKind.i64.bits))).toNat, UInt8.ofNat (IntKind.u8.wrap (IntKind.i64.wrap (↑(BitVec.ofInt IntKind.i64.bits (Int.fdiv v1 (2 ^ min (Int.toNat 16) IntKind.i64.bits)) &&& BitVec.ofInt IntKind.i64.bits 255).toNat : Int))).toNat, UInt8.ofNat (IntKind.u8.wrap (IntKind.i64.wrap (↑(BitVec.ofInt IntKind.i64.bits (Int.fdiv v1 (2 ^ min (Int.toNat 8) IntKind.i64.bits)) &&& BitVec.ofInt IntKind.i64.bits 255).toNat : Int))).toNat, UInt8.ofNat (IntKind.u8.wrap (IntKind.i64.wrap (↑(BitVec.ofInt IntKind.i64.bits v1 &&& BitVec.ofInt IntKind.i64.bits 255).toNat : Int))).toNat] ++ a0))
          (none))
        (none))
      (none))
noncomputable def i57 : FI := ⟨ps57, .ow 1 .u8, fun a0 => g57 a0⟩
theorem e57 : (fun a => i57.G a) = fnEval T Y env57 an i57.ps i57.rs false Try.f57.results.toList lv57 c57 := by kernel_rfl
theorem lo57 : loopsOf c57 = [] := by kernel_rfl
theorem ll57 : LoopsOk T Y env57 an lv57 (finO T false ps57 (.ow 1 .u8) Try.f57.results.toList) c57 := loopsOk_of (by rw [lo57]; exact trivial)
theorem k57 : FnOk Try.prog 57 i57 :=
  fn_ok (T := T) (Y := Y) (an := an) (env := env57) (fr := false) (lenv := lv57) mixed tok.1 tok.2 (envCons k71 (envCons k55 (envNil))) (fn := Try.f57) (c := c57) (by kernel_rfl) (by kernel_rfl) (by kernel_rfl) ll57 (fun a => congrFun e57 a)
/-! ### broker/brokerref04.Next -/
noncomputable def c51 : Code := Try.f51.body.getD .skip
noncomputable def env51 : Env := mkEnv [(67, i67), (57, i57)]
abbrev ps51 : List PSh := [.d (.sl .u8), .d (.i .i64)]
abbrev D51 : Type := pairD (.tup (.pr (.ty (.sl .u8)) (.pr (.ty (.i .i64)) (.ty (.i .i64))))) (osOf ps51)
noncomputable def lv51 : Nat → Option (LI D51) := fun _ => none
noncomputable def g51 (a0 : List UInt8) (a1 : Int) : Option (List UInt8 × Int × Int) :=
  Option.bind (g67 a0 a1 65536) fun v1 =>
  cond (v1.2.2 != 0)
    (some (([], 0, v1.2.2)))
    (cond (decide (IntKind.i64.wrap ((↑a0.length : Int) - v1.2.1) < IntKind.i64.wrap (4 + v1.1)))
      (some (([], 0, 3)))
      (cond (decide (0 ≤ IntKind.i64.wrap (IntKind.i64.wrap (v1.2.1 + 4) + v1.1)) && decide (IntKind.i64.wrap (IntKind.i64.wrap (v1.2.1 + 4) + v1.1) ≤ (↑a0.length : Int)) && (decide (0 ≤ IntKind.i64.wrap (v1.2.1 + 4)) && decide (IntKind.i64.wrap (v1.2.1 + 4) ≤ IntKind.i64.wrap (IntKind.i64.wrap (v1.2.1 + 4) + v1.1))) && true)
        (cond (decide (0 + (List.drop (IntKind.i64.wrap (v1.2.1 + 4)).toNat (List.take (IntKind.i64.wrap (IntKind.i64.wrap (v1.2.1 + 4) + v1.1)).toNat a0)).length ≤ 2147483647))
          (Option.bind (g57 ([] ++ List.drop (IntKind.i64.wrap (v1.2.1 + 4)).toNat (List.take (IntKind.i64.wrap (IntKind.i64.wrap (v1.2.1 + 4) + v1.1)).toNat a0))) fun v2 =>
          cond (decide (0 ≤ IntKind.i64.wrap (IntKind.i64.wrap (v1.2.1 + 4) + v1.1)) && decide (IntKind.i64.wrap (IntKind.i64.wrap (v1.2.1 + 4) + v1.1) ≤ (↑a0.length : Int)) && (decide (0 ≤ a1) && decide (a1 ≤ IntKind.i64.wrap (IntKind.i64.wrap (v1.2.1 + 4) + v1.1))) && true)
            (cond (!v2 == List.drop a1.toNat (List.take (IntKind.i64.wrap (IntKind.i64.wrap (v1.2.1 + 4) + v1.1)).toNat a0))
              (some (([], 0, 4)))
              (some (([] ++ List.drop (IntKind.i64.wrap (v1.2.1 + 4)).toNat (List.take (IntKind.i64.wrap (IntKind.i64.wrap (v1.2.1 + 4) + v1.1)).toNat a0), IntKind.i64.wrap (IntKind.i64.wrap (v1.2.1 + 4) + v1.1), 0))))
            (none))
          (none))
        (none)))
noncomputable def i51 : FI := ⟨ps51, .tup (.pr (.ty (.sl .u8)) (.pr (.ty (.i .i64)) (.ty (.i .i64)))), fun (a0, a1) => g51 a0 a1⟩
theorem e51 : (fun a => i51.G a) = fnEval T Y env51 an i51.ps i51.rs true Try.f51.results.toList lv51 c51 := by kernel_rfl
theorem lo51 : loopsOf c51 = [] := by kernel_rfl
theorem ll51 : LoopsOk T Y env51 an lv51 (finO T true ps51 (.tup (.pr (.ty (.sl .u8)) (.pr (.ty (.i .i64)) (.ty (.i .i64))))) Try.f51.results.toList) c51 := loopsOk_of (by rw [lo51]; exact trivial)
theorem k51 : FnOk Try.prog 51 i51 :=
  fn_ok (T := T) (Y := Y) (an := an) (env := env51) (fr := true) (lenv := lv51) mixed tok.1 tok.2 (envCons k67 (envCons k57 (envNil))) (fn := Try.f51) (c := c51) (by kernel_rfl) (by kernel_rfl) (by kernel_rfl) ll51 (fun a => congrFun e51 a)
end Go.Proofs.Ytbncnkchedhnpaa.EVT
