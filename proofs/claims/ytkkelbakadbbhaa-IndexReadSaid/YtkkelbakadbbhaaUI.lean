/- What functions compute, as printed (U, part I). -/
import Derived.Test.YtkkelbakadbbhaaUS
set_option linter.unusedVariables false
set_option maxRecDepth 100000
set_option maxHeartbeats 0
namespace Go.Proofs.Ytkkelbakadbbhaa.EVT
open Go Go.EV
/-! ### broker/brokerref33.All -/
noncomputable def c77 : Code := Try.f77.body.getD .skip
noncomputable def env77 : Env := mkEnv [(56, i56), (63, i63)]
abbrev ps77 : List PSh := [.d (.st (.pr (.i .i64) (.pr (.i .i64) (.sl .u8))))]
abbrev D77 : Type := pairD (.ty (.sl (.st (.pr (.i .i64) (.i .i64))))) (osOf ps77)
def ns77_0 : NS := { slots := [(3, .hw 24), (4, .ty (.i .i64)), (5, .ty (.sl (.st (.pr (.i .i64) (.pr (.i .i64) (.pr .s .s)))))), (6, .ty (.i .i64))], roots := [(24, .ar 2 (.st (.pr (.i .i64) (.i .i64))))], ad := [{ t := 3, path := [], g := 24, d := 2, τ := (.st (.pr (.i .i64) (.i .i64)) : Ty) }] }
def ex77_0 : List (Nat × NS) := [(0, { slots := [(3, .hw 24)], roots := [(24, .ar 2 (.st (.pr (.i .i64) (.i .i64))))] })]
noncomputable def st77_0 (ih : ((Int × (List (Int × Int × List UInt8 × List UInt8)) × Int) × (List (Int × Int))) → Option (((Unit) × (List (Int × Int))) ⊕ ((List (Int × Int))))) : ((Int × (List (Int × Int × List UInt8 × List UInt8)) × Int) × (List (Int × Int))) → Option (((Unit) × (List (Int × Int))) ⊕ ((List (Int × Int)))) := fun ((t4, t5, t6), r24) =>
  cond (decide (t6 < (↑t5.length : Int)))
    (cond (decide (0 ≤ t6) && decide (t6 < (↑t5.length : Int)))
      (cond (decide (r24.length + 1 ≤ 2147483647))
        (cond (decide (0 ≤ t6) && decide (t6 < (↑t5.length : Int)))
          (Option.bind (g63 (t5.getD t6.toNat (0, 0, [], [])).1 (t5.getD t6.toNat (0, 0, [], [])).2.1 (t5.getD t6.toNat (0, 0, [], [])).2.2.1 (t5.getD t6.toNat (0, 0, [], [])).2.2.2) fun v1 =>
          ih ((IntKind.i64.wrap (t4 + v1), t5, IntKind.i64.wrap (t6 + 1)), r24 ++ [((t5.getD t6.toNat (0, 0, [], [])).1, t4)]))
          (none))
        (none))
      (none))
    (some (Sum.inl ((), r24)))
noncomputable def h77_0 : ((Int × (List (Int × Int × List UInt8 × List UInt8)) × Int) × (List (Int × Int))) → Option (((Unit) × (List (Int × Int))) ⊕ ((List (Int × Int)))) := loopN st77_0 fuel
noncomputable def l77_0 : LI D77 := ⟨ns77_0, ex77_0, h77_0⟩
noncomputable def lv77 : Nat → Option (LI D77) := fun q => if q = 5 then some l77_0 else (fun _ => none) q
noncomputable def g77 (a0_0 : Int) (a0_1 : Int) (a0_2 : List UInt8) : Option (List (Int × Int)) :=
  Option.bind (g56 a0_0 a0_1 a0_2) fun v1 =>
  Option.bind (h77_0 ((0, v1, 0), [])) fun v2 =>
  match v2 with
  | .inl x3 =>
    some (x3.2)
  | .inr x3 =>
    some (x3)
noncomputable def i77 : FI := ⟨ps77, .ty (.sl (.st (.pr (.i .i64) (.i .i64)))), fun (a0_0, a0_1, a0_2) => g77 a0_0 a0_1 a0_2⟩
theorem s77_0 : st77_0 = stepEval T Y env77 an lv77 (finO T true ps77 (.ty (.sl (.st (.pr (.i .i64) (.i .i64))))) Try.f77.results.toList) (loopAt c77 0) ns77_0 ex77_0 := by kernel_rfl
theorem e77 : (fun a => i77.G a) = fnEval T Y env77 an i77.ps i77.rs true Try.f77.results.toList lv77 c77 := by kernel_rfl
theorem lo77 : loopsOf c77 = [loopAt c77 0] := by kernel_rfl
theorem ll77 : LoopsOk T Y env77 an lv77 (finO T true ps77 (.ty (.sl (.st (.pr (.i .i64) (.i .i64))))) Try.f77.results.toList) c77 := loopsOk_of (by rw [lo77]; exact ⟨loop1 (li := l77_0) (by kernel_rfl) (by kernel_rfl) s77_0, trivial⟩)
theorem k77 : FnOk Try.prog 77 i77 :=
  fn_ok (T := T) (Y := Y) (an := an) (env := env77) (fr := true) (lenv := lv77) mixed tok.1 tok.2 (envCons k56 (envCons k63 (envNil))) (fn := Try.f77) (c := c77) (by kernel_rfl) (by kernel_rfl) (by kernel_rfl) ll77 (fun a => congrFun e77 a)
/-! ### broker/index.Build -/
noncomputable def c35 : Code := Try.f35.body.getD .skip
noncomputable def env35 : Env := mkEnv [(29, i29)]
abbrev ps35 : List PSh := [.d (.st (.pr (.i .i64) (.pr (.i .i64) (.sl .u8)))), .d (.i .i64)]
abbrev D35 : Type := pairD (.ty (.sl (.st (.pr (.i .i64) (.i .i64))))) (osOf ps35)
def ns35_0 : NS := { slots := [(2, .pt 2 []), (5, .hw 41), (1, .ty (.i .i64)), (6, .ty (.i .i64))], roots := [(41, .ar 2 (.st (.pr (.i .i64) (.i .i64)))), (2, .ty (.st (.pr (.i .i64) (.pr (.i .i64) (.sl .u8)))))], ad := [{ t := 5, path := [], g := 41, d := 2, τ := (.st (.pr (.i .i64) (.i .i64)) : Ty) }] }
def ex35_0 : List (Nat × NS) := [(0, { slots := [(5, .hw 41)], roots := [(41, .ar 2 (.st (.pr (.i .i64) (.i .i64))))] })]
noncomputable def st35_0 (ih : ((Int × Int) × ((List (Int × Int)) × Int × Int × List UInt8)) → Option (((Unit) × (List (Int × Int))) ⊕ ((List (Int × Int))))) : ((Int × Int) × ((List (Int × Int)) × Int × Int × List UInt8)) → Option (((Unit) × (List (Int × Int))) ⊕ ((List (Int × Int)))) := fun ((t1, t6), (r41, (r2_0, r2_1, r2_2))) =>
  cond (decide (t6 < (↑r2_2.length : Int)))
    (Option.bind (g29 r2_2 t6) fun v1 =>
    cond (v1.2.2 != 0)
      (some (Sum.inl ((), r41)))
      (cond (!decide (t1 = 0))
        (cond ((IntKind.i64.wrap (v1.1.1 - r2_0)).tmod t1 == 0)
          (cond (decide (r41.length + 1 ≤ 2147483647))
            (ih ((t1, v1.2.1), r41 ++ [(v1.1.1, t6)], r2_0, r2_1, r2_2))
            (none))
          (ih ((t1, v1.2.1), r41, r2_0, r2_1, r2_2)))
        (none)))
    (some (Sum.inl ((), r41)))
noncomputable def h35_0 : ((Int × Int) × ((List (Int × Int)) × Int × Int × List UInt8)) → Option (((Unit) × (List (Int × Int))) ⊕ ((List (Int × Int)))) := loopN st35_0 fuel
noncomputable def l35_0 : LI D35 := ⟨ns35_0, ex35_0, h35_0⟩
noncomputable def lv35 : Nat → Option (LI D35) := fun q => if q = 4 then some l35_0 else (fun _ => none) q
noncomputable def g35 (a0_0 : Int) (a0_1 : Int) (a0_2 : List UInt8) (a1 : Int) : Option (List (Int × Int)) :=
  Option.bind (h35_0 ((if true = true then if 1 > a1 then 1 else a1 else if 1 < a1 then 1 else a1, 0), [], a0_0, a0_1, a0_2)) fun v1 =>
  match v1 with
  | .inl x2 =>
    some (x2.2)
  | .inr x2 =>
    some (x2)
noncomputable def i35 : FI := ⟨ps35, .ty (.sl (.st (.pr (.i .i64) (.i .i64)))), fun ((a0_0, a0_1, a0_2), a1) => g35 a0_0 a0_1 a0_2 a1⟩
theorem s35_0 : st35_0 = stepEval T Y env35 an lv35 (finO T true ps35 (.ty (.sl (.st (.pr (.i .i64) (.i .i64))))) Try.f35.results.toList) (loopAt c35 0) ns35_0 ex35_0 := by kernel_rfl
theorem e35 : (fun a => i35.G a) = fnEval T Y env35 an i35.ps i35.rs true Try.f35.results.toList lv35 c35 := by kernel_rfl
theorem lo35 : loopsOf c35 = [loopAt c35 0] := by kernel_rfl
theorem ll35 : LoopsOk T Y env35 an lv35 (finO T true ps35 (.ty (.sl (.st (.pr (.i .i64) (.i .i64))))) Try.f35.results.toList) c35 := loopsOk_of (by rw [lo35]; exact ⟨loop1 (li := l35_0) (by kernel_rfl) (by kernel_rfl) s35_0, trivial⟩)
theorem k35 : FnOk Try.prog 35 i35 :=
  fn_ok (T := T) (Y := Y) (an := an) (env := env35) (fr := true) (lenv := lv35) mixed tok.1 tok.2 (envCons k29 (envNil)) (fn := Try.f35) (c := c35) (by kernel_rfl) (by kernel_rfl) (by kernel_rfl) ll35 (fun a => congrFun e35 a)
/-! ### broker/brokerref33.Build -/
noncomputable def c36 : Code := Try.f36.body.getD .skip
noncomputable def env36 : Env := mkEnv [(77, i77)]
abbrev ps36 : List PSh := [.d (.st (.pr (.i .i64) (.pr (.i .i64) (.sl .u8)))), .d (.i .i64)]
abbrev D36 : Type := pairD (.ty (.sl (.st (.pr (.i .i64) (.i .i64))))) (osOf ps36)
def ns36_0 : NS := { slots := [(5, .hw 30), (1, .ty (.i .i64)), (6, .ty (.sl (.st (.pr (.i .i64) (.i .i64))))), (7, .ty (.i .i64))], roots := [(30, .ar 2 (.st (.pr (.i .i64) (.i .i64))))], ad := [{ t := 5, path := [], g := 30, d := 2, τ := (.st (.pr (.i .i64) (.i .i64)) : Ty) }] }
def ex36_0 : List (Nat × NS) := [(0, { slots := [(5, .hw 30)], roots := [(30, .ar 2 (.st (.pr (.i .i64) (.i .i64))))] })]
noncomputable def st36_0 (ih : ((Int × (List (Int × Int)) × Int) × (List (Int × Int))) → Option (((Unit) × (List (Int × Int))) ⊕ ((List (Int × Int))))) : ((Int × (List (Int × Int)) × Int) × (List (Int × Int))) → Option (((Unit) × (List (Int × Int))) ⊕ ((List (Int × Int)))) := fun ((t1, t6, t7), r30) =>
  cond (decide (t7 < (↑t6.length : Int)))
    (cond (decide (t1 ≤ 1))
      (cond (decide (0 ≤ t7) && decide (t7 < (↑t6.length : Int)))
        (cond (decide (r30.length + 1 ≤ 2147483647))
          (ih ((t1, t6, IntKind.i64.wrap (t7 + 1)), r30 ++ [t6.getD t7.toNat (0, 0)]))
          (none))
        (none))
      (cond (!decide (t1 = 0))
        (cond (t7.tmod t1 == 0)
          (cond (decide (0 ≤ t7) && decide (t7 < (↑t6.length : Int)))
            (cond (decide (r30.length + 1 ≤ 2147483647))
              (ih ((t1, t6, IntKind.i64.wrap (t7 + 1)), r30 ++ [t6.getD t7.toNat (0, 0)]))
              (none))
            (none))
          (ih ((t1, t6, IntKind.i64.wrap (t7 + 1)), r30)))
        (none)))
    (some (Sum.inl ((), r30)))
noncomputable def h36_0 : ((Int × (List (Int × Int)) × Int) × (List (Int × Int))) → Option (((Unit) × (List (Int × Int))) ⊕ ((List (Int × Int)))) := loopN st36_0 fuel
noncomputable def l36_0 : LI D36 := ⟨ns36_0, ex36_0, h36_0⟩
noncomputable def lv36 : Nat → Option (LI D36) := fun q => if q = 4 then some l36_0 else (fun _ => none) q
noncomputable def g36 (a0_0 : Int) (a0_1 : Int) (a0_2 : List UInt8) (a1 : Int) : Option (List (Int × Int)) :=
  Option.bind (g77 a0_0 a0_1 a0_2) fun v1 =>
  Option.bind (h36_0 ((a1, v1, 0), [])) fun v2 =>
  match v2 with
  | .inl x3 =>
    some (x3.2)
  | .inr x3 =>
    some (x3)
noncomputable def i36 : FI := ⟨ps36, .ty (.sl (.st (.pr (.i .i64) (.i .i64)))), fun ((a0_0, a0_1, a0_2), a1) => g36 a0_0 a0_1 a0_2 a1⟩
theorem s36_0 : st36_0 = stepEval T Y env36 an lv36 (finO T true ps36 (.ty (.sl (.st (.pr (.i .i64) (.i .i64))))) Try.f36.results.toList) (loopAt c36 0) ns36_0 ex36_0 := by kernel_rfl
theorem e36 : (fun a => i36.G a) = fnEval T Y env36 an i36.ps i36.rs true Try.f36.results.toList lv36 c36 := by kernel_rfl
theorem lo36 : loopsOf c36 = [loopAt c36 0] := by kernel_rfl
theorem ll36 : LoopsOk T Y env36 an lv36 (finO T true ps36 (.ty (.sl (.st (.pr (.i .i64) (.i .i64))))) Try.f36.results.toList) c36 := loopsOk_of (by rw [lo36]; exact ⟨loop1 (li := l36_0) (by kernel_rfl) (by kernel_rfl) s36_0, trivial⟩)
theorem k36 : FnOk Try.prog 36 i36 :=
  fn_ok (T := T) (Y := Y) (an := an) (env := env36) (fr := true) (lenv := lv36) mixed tok.1 tok.2 (envCons k77 (envNil)) (fn := Try.f36) (c := c36) (by kernel_rfl) (by kernel_rfl) (by kernel_rfl) ll36 (fun a => congrFun e36 a)
/-! ### broker/index.Check -/
noncomputable def c37 : Code := Try.f37.body.getD .skip
noncomputable def env37 : Env := mkEnv [(29, i29)]
abbrev ps37 : List PSh := [.d (.st (.pr (.i .i64) (.pr (.i .i64) (.sl .u8)))), .d (.sl (.st (.pr (.i .i64) (.i .i64))))]
abbrev D37 : Type := pairD (.ty .b) (osOf ps37)
def ns37_1 : NS := { slots := [(2, .pt 2 []), (7, .pt 7 []), (1, .ty (.sl (.st (.pr (.i .i64) (.i .i64))))), (5, .ty (.i .i64)), (11, .ty (.sl (.st (.pr (.i .i64) (.i .i64))))), (12, .ty (.i .i64)), (13, .ty (.i .i64))], roots := [(7, .ty (.st (.pr (.i .i64) (.i .i64)))), (2, .ty (.st (.pr (.i .i64) (.pr (.i .i64) (.sl .u8)))))] }
def ex37_1 : List (Nat × NS) := [(1, { slots := [(2, .pt 2 []), (1, .ty (.sl (.st (.pr (.i .i64) (.i .i64))))), (5, .ty (.i .i64)), (11, .ty (.sl (.st (.pr (.i .i64) (.i .i64))))), (12, .ty (.i .i64)), (13, .ty (.i .i64))], roots := [(2, .ty (.st (.pr (.i .i64) (.pr (.i .i64) (.sl .u8)))))] }), (2, { slots := [], roots := [] })]
noncomputable def st37_1 (ih : (((List (Int × Int)) × Int × (List (Int × Int)) × Int × Int) × ((Int × Int) × Int × Int × List UInt8)) → Option ((((List (Int × Int)) × Int × (List (Int × Int)) × Int × Int) × (Int × Int × List UInt8)) ⊕ (((Unit) × (Unit)) ⊕ Bool))) : (((List (Int × Int)) × Int × (List (Int × Int)) × Int × Int) × ((Int × Int) × Int × Int × List UInt8)) → Option ((((List (Int × Int)) × Int × (List (Int × Int)) × Int × Int) × (Int × Int × List UInt8)) ⊕ (((Unit) × (Unit)) ⊕ Bool)) := fun ((t1, t5, t11, t12, t13), ((r7_0, r7_1), (r2_0, r2_1, r2_2))) =>
  cond (decide (t5 < (↑r2_2.length : Int)))
    (Option.bind (g29 r2_2 t5) fun v1 =>
    cond (v1.2.2 != 0)
      (some (Sum.inr (Sum.inr false)))
      (cond (v1.1.1 == r7_0)
        (cond (t5 != r7_1)
          (some (Sum.inr (Sum.inr false)))
          (some (Sum.inl ((t1, t5, t11, t12, t13), r2_0, r2_1, r2_2))))
        (ih ((t1, v1.2.1, t11, t12, t13), (r7_0, r7_1), r2_0, r2_1, r2_2))))
    (some (Sum.inr (Sum.inl ((), ()))))
noncomputable def h37_1 : (((List (Int × Int)) × Int × (List (Int × Int)) × Int × Int) × ((Int × Int) × Int × Int × List UInt8)) → Option ((((List (Int × Int)) × Int × (List (Int × Int)) × Int × Int) × (Int × Int × List UInt8)) ⊕ (((Unit) × (Unit)) ⊕ Bool)) := loopN st37_1 fuel
noncomputable def l37_1 : LI D37 := ⟨ns37_1, ex37_1, h37_1⟩
def ns37_0 : NS := { slots := [(2, .pt 2 []), (1, .ty (.sl (.st (.pr (.i .i64) (.i .i64))))), (5, .ty (.i .i64)), (11, .ty (.sl (.st (.pr (.i .i64) (.i .i64))))), (12, .ty (.i .i64)), (13, .ty (.i .i64))], roots := [(2, .ty (.st (.pr (.i .i64) (.pr (.i .i64) (.sl .u8)))))] }
def ex37_0 : List (Nat × NS) := [(0, { slots := [], roots := [] })]
noncomputable def st37_0 (ih : (((List (Int × Int)) × Int × (List (Int × Int)) × Int × Int) × (Int × Int × List UInt8)) → Option (((Unit) × (Unit)) ⊕ Bool)) : (((List (Int × Int)) × Int × (List (Int × Int)) × Int × Int) × (Int × Int × List UInt8)) → Option (((Unit) × (Unit)) ⊕ Bool) := fun ((t1, t5, t11, t12, t13), (r2_0, r2_1, r2_2)) =>
  cond (decide (t13 < t12))
    (cond (decide (0 ≤ t13) && decide (t13 < (↑t11.length : Int)))
      (cond (decide (t13 > 0))
        (cond (decide (0 ≤ IntKind.i64.wrap (t13 - 1)) && decide (IntKind.i64.wrap (t13 - 1) < (↑t1.length : Int)))
          (cond (decide ((t11.getD t13.toNat (0, 0)).1 ≤ (t1.getD (IntKind.i64.wrap (t13 - 1)).toNat (0, 0)).1))
            (some (Sum.inr false))
            (Option.bind (h37_1 ((t1, t5, t11, t12, t13), t11.getD t13.toNat (0, 0), r2_0, r2_1, r2_2)) fun v1 =>
            match v1 with
            | .inl x2 =>
              ih ((x2.1.1, x2.1.2.1, x2.1.2.2.1, x2.1.2.2.2.1, IntKind.i64.wrap (x2.1.2.2.2.2 + 1)), x2.2)
            | .inr x2 =>
              match x2 with
              | .inl x3 =>
                some (Sum.inr false)
              | .inr x3 =>
                some (Sum.inr x3)))
          (none))
        (Option.bind (h37_1 ((t1, t5, t11, t12, t13), t11.getD t13.toNat (0, 0), r2_0, r2_1, r2_2)) fun v4 =>
        match v4 with
        | .inl x5 =>
          ih ((x5.1.1, x5.1.2.1, x5.1.2.2.1, x5.1.2.2.2.1, IntKind.i64.wrap (x5.1.2.2.2.2 + 1)), x5.2)
        | .inr x5 =>
          match x5 with
          | .inl x6 =>
            some (Sum.inr false)
          | .inr x6 =>
            some (Sum.inr x6)))
      (none))
    (some (Sum.inl ((), ())))
noncomputable def h37_0 : (((List (Int × Int)) × Int × (List (Int × Int)) × Int × Int) × (Int × Int × List UInt8)) → Option (((Unit) × (Unit)) ⊕ Bool) := loopN st37_0 fuel
noncomputable def l37_0 : LI D37 := ⟨ns37_0, ex37_0, h37_0⟩
noncomputable def lv37 : Nat → Option (LI D37) := fun q => if q = 3 then some l37_0 else (fun q => if q = 7 then some l37_1 else (fun _ => none) q) q
noncomputable def g37 (a0_0 : Int) (a0_1 : Int) (a0_2 : List UInt8) (a1 : List (Int × Int)) : Option (Bool) :=
  Option.bind (h37_0 ((a1, 0, a1, (↑a1.length : Int), 0), a0_0, a0_1, a0_2)) fun v1 =>
  match v1 with
  | .inl x2 =>
    some (true)
  | .inr x2 =>
    some (x2)
noncomputable def i37 : FI := ⟨ps37, .ty .b, fun ((a0_0, a0_1, a0_2), a1) => g37 a0_0 a0_1 a0_2 a1⟩
theorem s37_1 : st37_1 = stepEval T Y env37 an lv37 (finO T true ps37 (.ty .b) Try.f37.results.toList) (loopAt c37 1) ns37_1 ex37_1 := by kernel_rfl
theorem s37_0 : st37_0 = stepEval T Y env37 an lv37 (finO T true ps37 (.ty .b) Try.f37.results.toList) (loopAt c37 0) ns37_0 ex37_0 := by kernel_rfl
theorem e37 : (fun a => i37.G a) = fnEval T Y env37 an i37.ps i37.rs true Try.f37.results.toList lv37 c37 := by kernel_rfl
theorem lo37 : loopsOf c37 = [loopAt c37 0, loopAt c37 1] := by kernel_rfl
theorem ll37 : LoopsOk T Y env37 an lv37 (finO T true ps37 (.ty .b) Try.f37.results.toList) c37 := loopsOk_of (by rw [lo37]; exact ⟨loop1 (li := l37_0) (by kernel_rfl) (by kernel_rfl) s37_0, ⟨loop1 (li := l37_1) (by kernel_rfl) (by kernel_rfl) s37_1, trivial⟩⟩)
theorem k37 : FnOk Try.prog 37 i37 :=
  fn_ok (T := T) (Y := Y) (an := an) (env := env37) (fr := true) (lenv := lv37) mixed tok.1 tok.2 (envCons k29 (envNil)) (fn := Try.f37) (c := c37) (by kernel_rfl) (by kernel_rfl) (by kernel_rfl) ll37 (fun a => congrFun e37 a)
/-! ### broker/brokerref33.Rising -/
noncomputable def c39 : Code := Try.f39.body.getD .skip
noncomputable def env39 : Env := mkEnv []
abbrev ps39 : List PSh := [.d (.sl (.st (.pr (.i .i64) (.i .i64))))]
abbrev D39 : Type := pairD (.ty .b) (osOf ps39)
def ns39_0 : NS := { slots := [(0, .ty (.sl (.st (.pr (.i .i64) (.i .i64))))), (3, .ty (.i .i64))], roots := [] }
def ex39_0 : List (Nat × NS) := [(0, { slots := [], roots := [] })]
noncomputable def st39_0 (ih : (((List (Int × Int)) × Int) × (Unit)) → Option (((Unit) × (Unit)) ⊕ Bool)) : (((List (Int × Int)) × Int) × (Unit)) → Option (((Unit) × (Unit)) ⊕ Bool) := fun ((t0, t3), ()) =>
  cond (decide (t3 < (↑t0.length : Int)))
    (cond (decide (0 ≤ t3) && decide (t3 < (↑t0.length : Int)))
      (cond (decide (0 ≤ IntKind.i64.wrap (t3 - 1)) && decide (IntKind.i64.wrap (t3 - 1) < (↑t0.length : Int)))
        (cond (decide ((t0.getD t3.toNat (0, 0)).1 ≤ (t0.getD (IntKind.i64.wrap (t3 - 1)).toNat (0, 0)).1))
          (some (Sum.inr false))
          (ih ((t0, IntKind.i64.wrap (t3 + 1)), ())))
        (none))
      (none))
    (some (Sum.inl ((), ())))
noncomputable def h39_0 : (((List (Int × Int)) × Int) × (Unit)) → Option (((Unit) × (Unit)) ⊕ Bool) := loopN st39_0 fuel
noncomputable def l39_0 : LI D39 := ⟨ns39_0, ex39_0, h39_0⟩
noncomputable def lv39 : Nat → Option (LI D39) := fun q => if q = 2 then some l39_0 else (fun _ => none) q
noncomputable def g39 (a0 : List (Int × Int)) : Option (Bool) :=
  Option.bind (h39_0 ((a0, 1), ())) fun v1 =>
  match v1 with
  | .inl x2 =>
    some (true)
  | .inr x2 =>
    some (x2)
noncomputable def i39 : FI := ⟨ps39, .ty .b, fun a0 => g39 a0⟩
theorem s39_0 : st39_0 = stepEval T Y env39 an lv39 (finO T true ps39 (.ty .b) Try.f39.results.toList) (loopAt c39 0) ns39_0 ex39_0 := by kernel_rfl
theorem e39 : (fun a => i39.G a) = fnEval T Y env39 an i39.ps i39.rs true Try.f39.results.toList lv39 c39 := by kernel_rfl
theorem lo39 : loopsOf c39 = [loopAt c39 0] := by kernel_rfl
theorem ll39 : LoopsOk T Y env39 an lv39 (finO T true ps39 (.ty .b) Try.f39.results.toList) c39 := loopsOk_of (by rw [lo39]; exact ⟨loop1 (li := l39_0) (by kernel_rfl) (by kernel_rfl) s39_0, trivial⟩)
theorem k39 : FnOk Try.prog 39 i39 :=
  fn_ok (T := T) (Y := Y) (an := an) (env := env39) (fr := true) (lenv := lv39) mixed tok.1 tok.2 (envNil) (fn := Try.f39) (c := c39) (by kernel_rfl) (by kernel_rfl) (by kernel_rfl) ll39 (fun a => congrFun e39 a)
/-! ### broker/brokerref33.Check -/
noncomputable def c38 : Code := Try.f38.body.getD .skip
noncomputable def env38 : Env := mkEnv [(77, i77), (39, i39)]
abbrev ps38 : List PSh := [.d (.st (.pr (.i .i64) (.pr (.i .i64) (.sl .u8)))), .d (.sl (.st (.pr (.i .i64) (.i .i64))))]
abbrev D38 : Type := pairD (.ty .b) (osOf ps38)
def ns38_1 : NS := { slots := [(1, .ty (.sl (.st (.pr (.i .i64) (.i .i64))))), (5, .ty (.sl (.st (.pr (.i .i64) (.i .i64))))), (6, .ty (.i .i64)), (7, .ty .b), (8, .ty (.i .i64))], roots := [] }
def ex38_1 : List (Nat × NS) := [(2, { slots := [(1, .ty (.sl (.st (.pr (.i .i64) (.i .i64))))), (5, .ty (.sl (.st (.pr (.i .i64) (.i .i64))))), (6, .ty (.i .i64)), (7, .ty .b)], roots := [] })]
noncomputable def st38_1 (ih : (((List (Int × Int)) × (List (Int × Int)) × Int × Bool × Int) × (Unit)) → Option ((((List (Int × Int)) × (List (Int × Int)) × Int × Bool) × (Unit)) ⊕ Bool)) : (((List (Int × Int)) × (List (Int × Int)) × Int × Bool × Int) × (Unit)) → Option ((((List (Int × Int)) × (List (Int × Int)) × Int × Bool) × (Unit)) ⊕ Bool) := fun ((t1, t5, t6, t7, t8), ()) =>
  cond (decide (t8 < (↑t5.length : Int)))
    (cond (decide (0 ≤ t8) && decide (t8 < (↑t5.length : Int)))
      (cond (decide (0 ≤ t6) && decide (t6 < (↑t1.length : Int)))
        (cond ((t5.getD t8.toNat (0, 0)).1 == (t1.getD t6.toNat (0, 0)).1 && ((t5.getD t8.toNat (0, 0)).2 == (t1.getD t6.toNat (0, 0)).2 && true))
          (ih ((t1, t5, t6, true, IntKind.i64.wrap (t8 + 1)), ()))
          (ih ((t1, t5, t6, t7, IntKind.i64.wrap (t8 + 1)), ())))
        (none))
      (none))
    (some (Sum.inl ((t1, t5, t6, t7), ())))
noncomputable def h38_1 : (((List (Int × Int)) × (List (Int × Int)) × Int × Bool × Int) × (Unit)) → Option ((((List (Int × Int)) × (List (Int × Int)) × Int × Bool) × (Unit)) ⊕ Bool) := loopN st38_1 fuel
noncomputable def l38_1 : LI D38 := ⟨ns38_1, ex38_1, h38_1⟩
def ns38_0 : NS := { slots := [(1, .ty (.sl (.st (.pr (.i .i64) (.i .i64))))), (5, .ty (.sl (.st (.pr (.i .i64) (.i .i64))))), (6, .ty (.i .i64))], roots := [] }
def ex38_0 : List (Nat × NS) := [(0, { slots := [(1, .ty (.sl (.st (.pr (.i .i64) (.i .i64)))))], roots := [] })]
noncomputable def st38_0 (ih : (((List (Int × Int)) × (List (Int × Int)) × Int) × (Unit)) → Option (((List (Int × Int)) × (Unit)) ⊕ Bool)) : (((List (Int × Int)) × (List (Int × Int)) × Int) × (Unit)) → Option (((List (Int × Int)) × (Unit)) ⊕ Bool) := fun ((t1, t5, t6), ()) =>
  cond (decide (t6 < (↑t1.length : Int)))
    (Option.bind (h38_1 ((t1, t5, t6, false, 0), ())) fun v1 =>
    match v1 with
    | .inl x2 =>
      cond (!x2.1.2.2.2)
        (some (Sum.inr false))
        (ih ((x2.1.1, x2.1.2.1, IntKind.i64.wrap (x2.1.2.2.1 + 1)), ()))
    | .inr x2 =>
      some (Sum.inr x2))
    (some (Sum.inl (t1, ())))
noncomputable def h38_0 : (((List (Int × Int)) × (List (Int × Int)) × Int) × (Unit)) → Option (((List (Int × Int)) × (Unit)) ⊕ Bool) := loopN st38_0 fuel
noncomputable def l38_0 : LI D38 := ⟨ns38_0, ex38_0, h38_0⟩
noncomputable def lv38 : Nat → Option (LI D38) := fun q => if q = 3 then some l38_0 else (fun q => if q = 7 then some l38_1 else (fun _ => none) q) q
noncomputable def g38 (a0_0 : Int) (a0_1 : Int) (a0_2 : List UInt8) (a1 : List (Int × Int)) : Option (Bool) :=
  Option.bind (g77 a0_0 a0_1 a0_2) fun v1 =>
  Option.bind (h38_0 ((a1, v1, 0), ())) fun v2 =>
  match v2 with
  | .inl x3 =>
    Option.bind (g39 x3.1) fun v4 =>
    some (v4)
  | .inr x3 =>
    some (x3)
noncomputable def i38 : FI := ⟨ps38, .ty .b, fun ((a0_0, a0_1, a0_2), a1) => g38 a0_0 a0_1 a0_2 a1⟩
theorem s38_1 : st38_1 = stepEval T Y env38 an lv38 (finO T true ps38 (.ty .b) Try.f38.results.toList) (loopAt c38 1) ns38_1 ex38_1 := by kernel_rfl
theorem s38_0 : st38_0 = stepEval T Y env38 an lv38 (finO T true ps38 (.ty .b) Try.f38.results.toList) (loopAt c38 0) ns38_0 ex38_0 := by kernel_rfl
theorem e38 : (fun a => i38.G a) = fnEval T Y env38 an i38.ps i38.rs true Try.f38.results.toList lv38 c38 := by kernel_rfl
theorem lo38 : loopsOf c38 = [loopAt c38 0, loopAt c38 1] := by kernel_rfl
theorem ll38 : LoopsOk T Y env38 an lv38 (finO T true ps38 (.ty .b) Try.f38.results.toList) c38 := loopsOk_of (by rw [lo38]; exact ⟨loop1 (li := l38_0) (by kernel_rfl) (by kernel_rfl) s38_0, ⟨loop1 (li := l38_1) (by kernel_rfl) (by kernel_rfl) s38_1, trivial⟩⟩)
theorem k38 : FnOk Try.prog 38 i38 :=
  fn_ok (T := T) (Y := Y) (an := an) (env := env38) (fr := true) (lenv := lv38) mixed tok.1 tok.2 (envCons k77 (envCons k39 (envNil))) (fn := Try.f38) (c := c38) (by kernel_rfl) (by kernel_rfl) (by kernel_rfl) ll38 (fun a => congrFun e38 a)
/-! ### broker/index.Find -/
noncomputable def c40 : Code := Try.f40.body.getD .skip
noncomputable def env40 : Env := mkEnv []
abbrev ps40 : List PSh := [.d (.sl (.st (.pr (.i .i64) (.i .i64)))), .d (.i .i64)]
abbrev D40 : Type := pairD (.tup (.pr (.ty (.st (.pr (.i .i64) (.i .i64)))) (.ty .b))) (osOf ps40)
def ns40_0 : NS := { slots := [(4, .pt 4 []), (0, .ty (.sl (.st (.pr (.i .i64) (.i .i64))))), (1, .ty (.i .i64)), (6, .ty (.i .i64))], roots := [(4, .ty (.st (.pr (.i .i64) (.i .i64))))] }
def ex40_0 : List (Nat × NS) := [(0, { slots := [(4, .pt 4 [])], roots := [(4, .ty (.st (.pr (.i .i64) (.i .i64))))] })]
noncomputable def st40_0 (ih : (((List (Int × Int)) × Int × Int) × (Int × Int)) → Option (((Unit) × (Int × Int)) ⊕ (((Int × Int) × Bool)))) : (((List (Int × Int)) × Int × Int) × (Int × Int)) → Option (((Unit) × (Int × Int)) ⊕ (((Int × Int) × Bool))) := fun ((t0, t1, t6), (r4_0, r4_1)) =>
  cond (decide (t6 ≥ 0))
    (cond (decide (0 ≤ t6) && decide (t6 < (↑t0.length : Int)))
      (cond (decide ((t0.getD t6.toNat (0, 0)).1 ≤ t1))
        (cond (decide (0 ≤ t6) && decide (t6 < (↑t0.length : Int)))
          (some (Sum.inr (t0.getD t6.toNat (0, 0), true)))
          (none))
        (ih ((t0, t1, IntKind.i64.wrap (t6 - 1)), r4_0, r4_1)))
      (none))
    (some (Sum.inl ((), r4_0, r4_1)))
noncomputable def h40_0 : (((List (Int × Int)) × Int × Int) × (Int × Int)) → Option (((Unit) × (Int × Int)) ⊕ (((Int × Int) × Bool))) := loopN st40_0 fuel
noncomputable def l40_0 : LI D40 := ⟨ns40_0, ex40_0, h40_0⟩
noncomputable def lv40 : Nat → Option (LI D40) := fun q => if q = 2 then some l40_0 else (fun _ => none) q
noncomputable def g40 (a0 : List (Int × Int)) (a1 : Int) : Option ((Int × Int) × Bool) :=
  Option.bind (h40_0 ((a0, a1, IntKind.i64.wrap ((↑a0.length : Int) - 1)), 0, 0)) fun v1 =>
  match v1 with
  | .inl x2 =>
    some (((0, 0), false))
  | .inr x2 =>
    some (x2)
noncomputable def i40 : FI := ⟨ps40, .tup (.pr (.ty (.st (.pr (.i .i64) (.i .i64)))) (.ty .b)), fun (a0, a1) => g40 a0 a1⟩
theorem s40_0 : st40_0 = stepEval T Y env40 an lv40 (finO T true ps40 (.tup (.pr (.ty (.st (.pr (.i .i64) (.i .i64)))) (.ty .b))) Try.f40.results.toList) (loopAt c40 0) ns40_0 ex40_0 := by kernel_rfl
theorem e40 : (fun a => i40.G a) = fnEval T Y env40 an i40.ps i40.rs true Try.f40.results.toList lv40 c40 := by kernel_rfl
theorem lo40 : loopsOf c40 = [loopAt c40 0] := by kernel_rfl
theorem ll40 : LoopsOk T Y env40 an lv40 (finO T true ps40 (.tup (.pr (.ty (.st (.pr (.i .i64) (.i .i64)))) (.ty .b))) Try.f40.results.toList) c40 := loopsOk_of (by rw [lo40]; exact ⟨loop1 (li := l40_0) (by kernel_rfl) (by kernel_rfl) s40_0, trivial⟩)
theorem k40 : FnOk Try.prog 40 i40 :=
  fn_ok (T := T) (Y := Y) (an := an) (env := env40) (fr := true) (lenv := lv40) mixed tok.1 tok.2 (envNil) (fn := Try.f40) (c := c40) (by kernel_rfl) (by kernel_rfl) (by kernel_rfl) ll40 (fun a => congrFun e40 a)
/-! ### broker/brokerref33.Find -/
noncomputable def c41 : Code := Try.f41.body.getD .skip
noncomputable def env41 : Env := mkEnv []
abbrev ps41 : List PSh := [.d (.sl (.st (.pr (.i .i64) (.i .i64)))), .d (.i .i64)]
abbrev D41 : Type := pairD (.tup (.pr (.ty (.st (.pr (.i .i64) (.i .i64)))) (.ty .b))) (osOf ps41)
def ns41_0 : NS := { slots := [(4, .pt 4 []), (0, .ty (.sl (.st (.pr (.i .i64) (.i .i64))))), (1, .ty (.i .i64)), (6, .ty (.i .i64))], roots := [(4, .ty (.st (.pr (.i .i64) (.i .i64))))] }
def ex41_0 : List (Nat × NS) := [(0, { slots := [(4, .pt 4 [])], roots := [(4, .ty (.st (.pr (.i .i64) (.i .i64))))] })]
noncomputable def st41_0 (ih : (((List (Int × Int)) × Int × Int) × (Int × Int)) → Option (((Unit) × (Int × Int)) ⊕ (((Int × Int) × Bool)))) : (((List (Int × Int)) × Int × Int) × (Int × Int)) → Option (((Unit) × (Int × Int)) ⊕ (((Int × Int) × Bool))) := fun ((t0, t1, t6), (r4_0, r4_1)) =>
  cond (decide (t6 ≥ 0))
    (cond (decide (0 ≤ t6) && decide (t6 < (↑t0.length : Int)))
      (cond (decide ((t0.getD t6.toNat (0, 0)).1 ≤ t1))
        (cond (decide (0 ≤ t6) && decide (t6 < (↑t0.length : Int)))
          (some (Sum.inr (t0.getD t6.toNat (0, 0), true)))
          (none))
        (ih ((t0, t1, IntKind.i64.wrap (t6 - 1)), r4_0, r4_1)))
      (none))
    (some (Sum.inl ((), r4_0, r4_1)))
noncomputable def h41_0 : (((List (Int × Int)) × Int × Int) × (Int × Int)) → Option (((Unit) × (Int × Int)) ⊕ (((Int × Int) × Bool))) := loopN st41_0 fuel
noncomputable def l41_0 : LI D41 := ⟨ns41_0, ex41_0, h41_0⟩
noncomputable def lv41 : Nat → Option (LI D41) := fun q => if q = 2 then some l41_0 else (fun _ => none) q
noncomputable def g41 (a0 : List (Int × Int)) (a1 : Int) : Option ((Int × Int) × Bool) :=
  Option.bind (h41_0 ((a0, a1, IntKind.i64.wrap ((↑a0.length : Int) - 1)), 0, 0)) fun v1 =>
  match v1 with
  | .inl x2 =>
    some (((0, 0), false))
  | .inr x2 =>
    some (x2)
noncomputable def i41 : FI := ⟨ps41, .tup (.pr (.ty (.st (.pr (.i .i64) (.i .i64)))) (.ty .b)), fun (a0, a1) => g41 a0 a1⟩
theorem s41_0 : st41_0 = stepEval T Y env41 an lv41 (finO T true ps41 (.tup (.pr (.ty (.st (.pr (.i .i64) (.i .i64)))) (.ty .b))) Try.f41.results.toList) (loopAt c41 0) ns41_0 ex41_0 := by kernel_rfl
theorem e41 : (fun a => i41.G a) = fnEval T Y env41 an i41.ps i41.rs true Try.f41.results.toList lv41 c41 := by kernel_rfl
theorem lo41 : loopsOf c41 = [loopAt c41 0] := by kernel_rfl
theorem ll41 : LoopsOk T Y env41 an lv41 (finO T true ps41 (.tup (.pr (.ty (.st (.pr (.i .i64) (.i .i64)))) (.ty .b))) Try.f41.results.toList) c41 := loopsOk_of (by rw [lo41]; exact ⟨loop1 (li := l41_0) (by kernel_rfl) (by kernel_rfl) s41_0, trivial⟩)
theorem k41 : FnOk Try.prog 41 i41 :=
  fn_ok (T := T) (Y := Y) (an := an) (env := env41) (fr := true) (lenv := lv41) mixed tok.1 tok.2 (envNil) (fn := Try.f41) (c := c41) (by kernel_rfl) (by kernel_rfl) (by kernel_rfl) ll41 (fun a => congrFun e41 a)
/-! ### broker/index.Read -/
noncomputable def c43 : Code := Try.f43.body.getD .skip
noncomputable def env43 : Env := mkEnv [(40, i40), (29, i29)]
abbrev ps43 : List PSh := [.d (.st (.pr (.i .i64) (.pr (.i .i64) (.sl .u8)))), .d (.sl (.st (.pr (.i .i64) (.i .i64)))), .d (.i .i64), .d (.i .i64)]
abbrev D43 : Type := pairD (.ty (.sl (.st (.pr (.i .i64) (.pr (.i .i64) (.pr .s .s)))))) (osOf ps43)
def ns43_0 : NS := { slots := [(4, .pt 4 []), (11, .hw 52), (2, .ty (.i .i64)), (3, .ty (.i .i64)), (12, .ty (.i .i64))], roots := [(52, .ar 4 (.st (.pr (.i .i64) (.pr (.i .i64) (.pr .s .s))))), (4, .ty (.st (.pr (.i .i64) (.pr (.i .i64) (.sl .u8)))))], ad := [{ t := 11, path := [], g := 52, d := 4, τ := (.st (.pr (.i .i64) (.pr (.i .i64) (.pr .s .s))) : Ty) }] }
def ex43_0 : List (Nat × NS) := [(0, { slots := [(11, .hw 52)], roots := [(52, .ar 4 (.st (.pr (.i .i64) (.pr (.i .i64) (.pr .s .s)))))] })]
noncomputable def st43_0 (ih : ((Int × Int × Int) × ((List (Int × Int × List UInt8 × List UInt8)) × Int × Int × List UInt8)) → Option (((Unit) × (List (Int × Int × List UInt8 × List UInt8))) ⊕ ((List (Int × Int × List UInt8 × List UInt8))))) : ((Int × Int × Int) × ((List (Int × Int × List UInt8 × List UInt8)) × Int × Int × List UInt8)) → Option (((Unit) × (List (Int × Int × List UInt8 × List UInt8))) ⊕ ((List (Int × Int × List UInt8 × List UInt8)))) := fun ((t2, t3, t12), (r52, (r4_0, r4_1, r4_2))) =>
  cond (decide (t12 < (↑r4_2.length : Int)))
    (cond (decide ((↑r52.length : Int) < t3))
      (Option.bind (g29 r4_2 t12) fun v1 =>
      cond (v1.2.2 != 0)
        (some (Sum.inl ((), r52)))
        (cond (decide (v1.1.1 ≥ t2))
          (cond (decide (r52.length + 1 ≤ 2147483647))
            (ih ((t2, t3, v1.2.1), r52 ++ [v1.1], r4_0, r4_1, r4_2))
            (none))
          (ih ((t2, t3, v1.2.1), r52, r4_0, r4_1, r4_2))))
      (some (Sum.inl ((), r52))))
    (some (Sum.inl ((), r52)))
noncomputable def h43_0 : ((Int × Int × Int) × ((List (Int × Int × List UInt8 × List UInt8)) × Int × Int × List UInt8)) → Option (((Unit) × (List (Int × Int × List UInt8 × List UInt8))) ⊕ ((List (Int × Int × List UInt8 × List UInt8)))) := loopN st43_0 fuel
noncomputable def l43_0 : LI D43 := ⟨ns43_0, ex43_0, h43_0⟩
noncomputable def lv43 : Nat → Option (LI D43) := fun q => if q = 4 then some l43_0 else (fun _ => none) q
noncomputable def g43 (a0_0 : Int) (a0_1 : Int) (a0_2 : List UInt8) (a1 : List (Int × Int)) (a2 : Int) (a3 : Int) : Option (List (Int × Int × List UInt8 × List UInt8)) :=
  Option.bind (g40 a1 a2) fun v1 =>
  Option.bind (h43_0 ((a2, a3, v1.1.2), [], a0_0, a0_1, a0_2)) fun v2 =>
  match v2 with
  | .inl x3 =>
    some (x3.2)
  | .inr x3 =>
    some (x3)
noncomputable def i43 : FI := ⟨ps43, .ty (.sl (.st (.pr (.i .i64) (.pr (.i .i64) (.pr .s .s))))), fun ((a0_0, a0_1, a0_2), a1, a2, a3) => g43 a0_0 a0_1 a0_2 a1 a2 a3⟩
theorem s43_0 : st43_0 = stepEval T Y env43 an lv43 (finO T true ps43 (.ty (.sl (.st (.pr (.i .i64) (.pr (.i .i64) (.pr .s .s)))))) Try.f43.results.toList) (loopAt c43 0) ns43_0 ex43_0 := by kernel_rfl
theorem e43 : (fun a => i43.G a) = fnEval T Y env43 an i43.ps i43.rs true Try.f43.results.toList lv43 c43 := by kernel_rfl
theorem lo43 : loopsOf c43 = [loopAt c43 0] := by kernel_rfl
theorem ll43 : LoopsOk T Y env43 an lv43 (finO T true ps43 (.ty (.sl (.st (.pr (.i .i64) (.pr (.i .i64) (.pr .s .s)))))) Try.f43.results.toList) c43 := loopsOk_of (by rw [lo43]; exact ⟨loop1 (li := l43_0) (by kernel_rfl) (by kernel_rfl) s43_0, trivial⟩)
theorem k43 : FnOk Try.prog 43 i43 :=
  fn_ok (T := T) (Y := Y) (an := an) (env := env43) (fr := true) (lenv := lv43) mixed tok.1 tok.2 (envCons k40 (envCons k29 (envNil))) (fn := Try.f43) (c := c43) (by kernel_rfl) (by kernel_rfl) (by kernel_rfl) ll43 (fun a => congrFun e43 a)
/-! ### broker/brokerref33.Read -/
noncomputable def c44 : Code := Try.f44.body.getD .skip
noncomputable def env44 : Env := mkEnv [(56, i56)]
abbrev ps44 : List PSh := [.d (.st (.pr (.i .i64) (.pr (.i .i64) (.sl .u8)))), .d (.sl (.st (.pr (.i .i64) (.i .i64)))), .d (.i .i64), .d (.i .i64)]
abbrev D44 : Type := pairD (.ty (.sl (.st (.pr (.i .i64) (.pr (.i .i64) (.pr .s .s)))))) (osOf ps44)
def ns44_0 : NS := { slots := [(9, .hw 39), (2, .ty (.i .i64)), (3, .ty (.i .i64)), (10, .ty (.sl (.st (.pr (.i .i64) (.pr (.i .i64) (.pr .s .s)))))), (11, .ty (.i .i64))], roots := [(39, .ar 4 (.st (.pr (.i .i64) (.pr (.i .i64) (.pr .s .s)))))], ad := [{ t := 9, path := [], g := 39, d := 4, τ := (.st (.pr (.i .i64) (.pr (.i .i64) (.pr .s .s))) : Ty) }] }
def ex44_0 : List (Nat × NS) := [(0, { slots := [(9, .hw 39)], roots := [(39, .ar 4 (.st (.pr (.i .i64) (.pr (.i .i64) (.pr .s .s)))))] })]
noncomputable def st44_0 (ih : ((Int × Int × (List (Int × Int × List UInt8 × List UInt8)) × Int) × (List (Int × Int × List UInt8 × List UInt8))) → Option (((Unit) × (List (Int × Int × List UInt8 × List UInt8))) ⊕ ((List (Int × Int × List UInt8 × List UInt8))))) : ((Int × Int × (List (Int × Int × List UInt8 × List UInt8)) × Int) × (List (Int × Int × List UInt8 × List UInt8))) → Option (((Unit) × (List (Int × Int × List UInt8 × List UInt8))) ⊕ ((List (Int × Int × List UInt8 × List UInt8)))) := fun ((t2, t3, t10, t11), r39) =>
  cond (decide (t11 < (↑t10.length : Int)))
    (cond (decide (0 ≤ t11) && decide (t11 < (↑t10.length : Int)))
      (cond (decide ((t10.getD t11.toNat (0, 0, [], [])).1 ≥ t2))
        (cond (decide ((↑r39.length : Int) < t3))
          (cond (decide (0 ≤ t11) && decide (t11 < (↑t10.length : Int)))
            (cond (decide (r39.length + 1 ≤ 2147483647))
              (ih ((t2, t3, t10, IntKind.i64.wrap (t11 + 1)), r39 ++ [t10.getD t11.toNat (0, 0, [], [])]))
              (none))
            (none))
          (ih ((t2, t3, t10, IntKind.i64.wrap (t11 + 1)), r39)))
        (ih ((t2, t3, t10, IntKind.i64.wrap (t11 + 1)), r39)))
      (none))
    (some (Sum.inl ((), r39)))
noncomputable def h44_0 : ((Int × Int × (List (Int × Int × List UInt8 × List UInt8)) × Int) × (List (Int × Int × List UInt8 × List UInt8))) → Option (((Unit) × (List (Int × Int × List UInt8 × List UInt8))) ⊕ ((List (Int × Int × List UInt8 × List UInt8)))) := loopN st44_0 fuel
noncomputable def l44_0 : LI D44 := ⟨ns44_0, ex44_0, h44_0⟩
noncomputable def lv44 : Nat → Option (LI D44) := fun q => if q = 4 then some l44_0 else (fun _ => none) q
noncomputable def g44 (a0_0 : Int) (a0_1 : Int) (a0_2 : List UInt8) (a1 : List (Int × Int)) (a2 : Int) (a3 : Int) : Option (List (Int × Int × List UInt8 × List UInt8)) :=
  Option.bind (g56 a0_0 a0_1 a0_2) fun v1 =>
  Option.bind (h44_0 ((a2, a3, v1, 0), [])) fun v2 =>
  match v2 with
  | .inl x3 =>
    some (x3.2)
  | .inr x3 =>
    some (x3)
noncomputable def i44 : FI := ⟨ps44, .ty (.sl (.st (.pr (.i .i64) (.pr (.i .i64) (.pr .s .s))))), fun ((a0_0, a0_1, a0_2), a1, a2, a3) => g44 a0_0 a0_1 a0_2 a1 a2 a3⟩
theorem s44_0 : st44_0 = stepEval T Y env44 an lv44 (finO T true ps44 (.ty (.sl (.st (.pr (.i .i64) (.pr (.i .i64) (.pr .s .s)))))) Try.f44.results.toList) (loopAt c44 0) ns44_0 ex44_0 := by kernel_rfl
theorem e44 : (fun a => i44.G a) = fnEval T Y env44 an i44.ps i44.rs true Try.f44.results.toList lv44 c44 := by kernel_rfl
theorem lo44 : loopsOf c44 = [loopAt c44 0] := by kernel_rfl
theorem ll44 : LoopsOk T Y env44 an lv44 (finO T true ps44 (.ty (.sl (.st (.pr (.i .i64) (.pr (.i .i64) (.pr .s .s)))))) Try.f44.results.toList) c44 := loopsOk_of (by rw [lo44]; exact ⟨loop1 (li := l44_0) (by kernel_rfl) (by kernel_rfl) s44_0, trivial⟩)
theorem k44 : FnOk Try.prog 44 i44 :=
  fn_ok (T := T) (Y := Y) (an := an) (env := env44) (fr := true) (lenv := lv44) mixed tok.1 tok.2 (envCons k56 (envNil)) (fn := Try.f44) (c := c44) (by kernel_rfl) (by kernel_rfl) (by kernel_rfl) ll44 (fun a => congrFun e44 a)
/-! ### broker/index.Steps -/
noncomputable def c45 : Code := Try.f45.body.getD .skip
noncomputable def env45 : Env := mkEnv [(40, i40), (29, i29)]
abbrev ps45 : List PSh := [.d (.st (.pr (.i .i64) (.pr (.i .i64) (.sl .u8)))), .d (.sl (.st (.pr (.i .i64) (.i .i64)))), .d (.i .i64)]
abbrev D45 : Type := pairD (.ty (.i .i64)) (osOf ps45)
def ns45_0 : NS := { slots := [(3, .pt 3 []), (2, .ty (.i .i64)), (9, .ty (.i .i64)), (10, .ty (.i .i64))], roots := [(3, .ty (.st (.pr (.i .i64) (.pr (.i .i64) (.sl .u8)))))] }
def ex45_0 : List (Nat × NS) := [(0, { slots := [], roots := [] })]
noncomputable def st45_0 (ih : ((Int × Int × Int) × (Int × Int × List UInt8)) → Option (((Unit) × (Unit)) ⊕ Int)) : ((Int × Int × Int) × (Int × Int × List UInt8)) → Option (((Unit) × (Unit)) ⊕ Int) := fun ((t2, t9, t10), (r3_0, r3_1, r3_2)) =>
  cond (decide (t10 < (↑r3_2.length : Int)))
    (Option.bind (g29 r3_2 t10) fun v1 =>
    cond (v1.2.2 != 0)
      (some (Sum.inr 0))
      (cond (v1.1.1 == t2)
        (some (Sum.inr (IntKind.i64.wrap (t9 + 1))))
        (ih ((t2, IntKind.i64.wrap (t9 + 1), v1.2.1), r3_0, r3_1, r3_2))))
    (some (Sum.inl ((), ())))
noncomputable def h45_0 : ((Int × Int × Int) × (Int × Int × List UInt8)) → Option (((Unit) × (Unit)) ⊕ Int) := loopN st45_0 fuel
noncomputable def l45_0 : LI D45 := ⟨ns45_0, ex45_0, h45_0⟩
noncomputable def lv45 : Nat → Option (LI D45) := fun q => if q = 4 then some l45_0 else (fun _ => none) q
noncomputable def g45 (a0_0 : Int) (a0_1 : Int) (a0_2 : List UInt8) (a1 : List (Int × Int)) (a2 : Int) : Option (Int) :=
  Option.bind (g40 a1 a2) fun v1 =>
  Option.bind (h45_0 ((a2, 0, v1.1.2), a0_0, a0_1, a0_2)) fun v2 =>
  match v2 with
  | .inl x3 =>
    some (0)
  | .inr x3 =>
    some (x3)
noncomputable def i45 : FI := ⟨ps45, .ty (.i .i64), fun ((a0_0, a0_1, a0_2), a1, a2) => g45 a0_0 a0_1 a0_2 a1 a2⟩
theorem s45_0 : st45_0 = stepEval T Y env45 an lv45 (finO T true ps45 (.ty (.i .i64)) Try.f45.results.toList) (loopAt c45 0) ns45_0 ex45_0 := by kernel_rfl
theorem e45 : (fun a => i45.G a) = fnEval T Y env45 an i45.ps i45.rs true Try.f45.results.toList lv45 c45 := by kernel_rfl
theorem lo45 : loopsOf c45 = [loopAt c45 0] := by kernel_rfl
theorem ll45 : LoopsOk T Y env45 an lv45 (finO T true ps45 (.ty (.i .i64)) Try.f45.results.toList) c45 := loopsOk_of (by rw [lo45]; exact ⟨loop1 (li := l45_0) (by kernel_rfl) (by kernel_rfl) s45_0, trivial⟩)
theorem k45 : FnOk Try.prog 45 i45 :=
  fn_ok (T := T) (Y := Y) (an := an) (env := env45) (fr := true) (lenv := lv45) mixed tok.1 tok.2 (envCons k40 (envCons k29 (envNil))) (fn := Try.f45) (c := c45) (by kernel_rfl) (by kernel_rfl) (by kernel_rfl) ll45 (fun a => congrFun e45 a)
/-! ### broker/brokerref33.Steps -/
noncomputable def c46 : Code := Try.f46.body.getD .skip
noncomputable def env46 : Env := mkEnv [(41, i41)]
abbrev ps46 : List PSh := [.d (.st (.pr (.i .i64) (.pr (.i .i64) (.sl .u8)))), .d (.sl (.st (.pr (.i .i64) (.i .i64)))), .d (.i .i64)]
abbrev D46 : Type := pairD (.ty (.i .i64)) (osOf ps46)
noncomputable def lv46 : Nat → Option (LI D46) := fun _ => none
noncomputable def g46 (a0_0 : Int) (a0_1 : Int) (a0_2 : List UInt8) (a1 : List (Int × Int)) (a2 : Int) : Option (Int) :=
  cond (decide (a2 < a0_0))
    (some (0))
    (cond (decide (a2 ≥ a0_1))
      (some (0))
      (Option.bind (g41 a1 a2) fun v1 =>
      cond (!v1.2)
        (some (IntKind.i64.wrap (IntKind.i64.wrap (a2 - a0_0) + 1)))
        (some (IntKind.i64.wrap (IntKind.i64.wrap (a2 - v1.1.1) + 1)))))
noncomputable def i46 : FI := ⟨ps46, .ty (.i .i64), fun ((a0_0, a0_1, a0_2), a1, a2) => g46 a0_0 a0_1 a0_2 a1 a2⟩
theorem e46 : (fun a => i46.G a) = fnEval T Y env46 an i46.ps i46.rs true Try.f46.results.toList lv46 c46 := by kernel_rfl
theorem lo46 : loopsOf c46 = [] := by kernel_rfl
theorem ll46 : LoopsOk T Y env46 an lv46 (finO T true ps46 (.ty (.i .i64)) Try.f46.results.toList) c46 := loopsOk_of (by rw [lo46]; exact trivial)
theorem k46 : FnOk Try.prog 46 i46 :=
  fn_ok (T := T) (Y := Y) (an := an) (env := env46) (fr := true) (lenv := lv46) mixed tok.1 tok.2 (envCons k41 (envNil)) (fn := Try.f46) (c := c46) (by kernel_rfl) (by kernel_rfl) (by kernel_rfl) ll46 (fun a => congrFun e46 a)
/-! ### broker/brokerref33.Same -/
noncomputable def c34 : Code := Try.f34.body.getD .skip
noncomputable def env34 : Env := mkEnv []
abbrev ps34 : List PSh := [.d (.sl (.st (.pr (.i .i64) (.i .i64)))), .d (.sl (.st (.pr (.i .i64) (.i .i64))))]
abbrev D34 : Type := pairD (.ty .b) (osOf ps34)
def ns34_0 : NS := { slots := [(0, .ty (.sl (.st (.pr (.i .i64) (.i .i64))))), (1, .ty (.sl (.st (.pr (.i .i64) (.i .i64))))), (5, .ty (.i .i64))], roots := [] }
def ex34_0 : List (Nat × NS) := [(0, { slots := [], roots := [] })]
noncomputable def st34_0 (ih : (((List (Int × Int)) × (List (Int × Int)) × Int) × (Unit)) → Option (((Unit) × (Unit)) ⊕ Bool)) : (((List (Int × Int)) × (List (Int × Int)) × Int) × (Unit)) → Option (((Unit) × (Unit)) ⊕ Bool) := fun ((t0, t1, t5), ()) =>
  cond (decide (t5 < (↑t0.length : Int)))
    (cond (decide (0 ≤ t5) && decide (t5 < (↑t0.length : Int)))
      (cond (decide (0 ≤ t5) && decide (t5 < (↑t1.length : Int)))
        (cond (!((t0.getD t5.toNat (0, 0)).1 == (t1.getD t5.toNat (0, 0)).1 && ((t0.getD t5.toNat (0, 0)).2 == (t1.getD t5.toNat (0, 0)).2 && true)))
          (some (Sum.inr false))
          (ih ((t0, t1, IntKind.i64.wrap (t5 + 1)), ())))
        (none))
      (none))
    (some (Sum.inl ((), ())))
noncomputable def h34_0 : (((List (Int × Int)) × (List (Int × Int)) × Int) × (Unit)) → Option (((Unit) × (Unit)) ⊕ Bool) := loopN st34_0 fuel
noncomputable def l34_0 : LI D34 := ⟨ns34_0, ex34_0, h34_0⟩
noncomputable def lv34 : Nat → Option (LI D34) := fun q => if q = 4 then some l34_0 else (fun _ => none) q
noncomputable def g34 (a0 : List (Int × Int)) (a1 : List (Int × Int)) : Option (Bool) :=
  cond ((↑a0.length : Int) != (↑a1.length : Int))
    (some (false))
    (Option.bind (h34_0 ((a0, a1, 0), ())) fun v1 =>
    match v1 with
    | .inl x2 =>
      some (true)
    | .inr x2 =>
      some (x2))
noncomputable def i34 : FI := ⟨ps34, .ty .b, fun (a0, a1) => g34 a0 a1⟩
theorem s34_0 : st34_0 = stepEval T Y env34 an lv34 (finO T true ps34 (.ty .b) Try.f34.results.toList) (loopAt c34 0) ns34_0 ex34_0 := by kernel_rfl
theorem e34 : (fun a => i34.G a) = fnEval T Y env34 an i34.ps i34.rs true Try.f34.results.toList lv34 c34 := by kernel_rfl
theorem lo34 : loopsOf c34 = [loopAt c34 0] := by kernel_rfl
theorem ll34 : LoopsOk T Y env34 an lv34 (finO T true ps34 (.ty .b) Try.f34.results.toList) c34 := loopsOk_of (by rw [lo34]; exact ⟨loop1 (li := l34_0) (by kernel_rfl) (by kernel_rfl) s34_0, trivial⟩)
theorem k34 : FnOk Try.prog 34 i34 :=
  fn_ok (T := T) (Y := Y) (an := an) (env := env34) (fr := true) (lenv := lv34) mixed tok.1 tok.2 (envNil) (fn := Try.f34) (c := c34) (by kernel_rfl) (by kernel_rfl) (by kernel_rfl) ll34 (fun a => congrFun e34 a)
/-! ### broker/brokerlaw33.five -/
noncomputable def c76 : Code := Try.f76.body.getD .skip
noncomputable def env76 : Env := mkEnv [(62, i62)]
abbrev ps76 : List PSh := []
abbrev D76 : Type := pairD (.ty (.st (.pr (.i .i64) (.pr (.i .i64) (.sl .u8))))) (osOf ps76)
noncomputable def lv76 : Nat → Option (LI D76) := fun _ => none
noncomputable def g76 : Option (Int × Int × List UInt8) :=
  Option.bind (g62 5 [(0, 1, [97], []), (0, 1, [98], []), (0, 2, [97], []), (0, 3, [99], []), (0, 1, [100], [])]) fun v1 =>
  some (v1.1)
noncomputable def i76 : FI := ⟨ps76, .ty (.st (.pr (.i .i64) (.pr (.i .i64) (.sl .u8)))), fun _ => g76⟩
theorem e76 : (fun a => i76.G a) = fnEval T Y env76 an i76.ps i76.rs true Try.f76.results.toList lv76 c76 := by kernel_rfl
theorem lo76 : loopsOf c76 = [] := by kernel_rfl
theorem ll76 : LoopsOk T Y env76 an lv76 (finO T true ps76 (.ty (.st (.pr (.i .i64) (.pr (.i .i64) (.sl .u8))))) Try.f76.results.toList) c76 := loopsOk_of (by rw [lo76]; exact trivial)
theorem k76 : FnOk Try.prog 76 i76 :=
  fn_ok (T := T) (Y := Y) (an := an) (env := env76) (fr := true) (lenv := lv76) mixed tok.1 tok.2 (envCons k62 (envNil)) (fn := Try.f76) (c := c76) (by kernel_rfl) (by kernel_rfl) (by kernel_rfl) ll76 (fun a => congrFun e76 a)
/-! ### broker/brokerlaw33.awake -/
noncomputable def c33 : Code := Try.f33.body.getD .skip
noncomputable def env33 : Env := mkEnv [(76, i76), (35, i35), (40, i40), (43, i43), (37, i37), (45, i45)]
abbrev ps33 : List PSh := []
abbrev D33 : Type := pairD (.ty .b) (osOf ps33)
noncomputable def lv33 : Nat → Option (LI D33) := fun _ => none
noncomputable def g33 : Option (Bool) :=
  Option.bind (g76) fun v1 =>
  Option.bind (g35 v1.1 v1.2.1 v1.2.2 2) fun v2 =>
  cond ((↑(List.length v2) : Int) != 3)
    (some (false))
    (Option.bind (g40 v2 6) fun v3 =>
    Option.bind (g43 v1.1 v1.2.1 v1.2.2 v2 8 1) fun v4 =>
    cond (decide (0 ≤ 0) && decide (0 < (↑(List.length v2) : Int)))
      (cond ((List.getD v2 (Int.toNat 0) (0, 0)).1 == 5 && ((List.getD v2 (Int.toNat 0) (0, 0)).2 == 0 && true))
        (cond (decide (0 ≤ 1) && decide (1 < (↑(List.length v2) : Int)))
          (cond ((List.getD v2 (Int.toNat 1) (0, 0)).1 == 7)
            (cond (decide (0 ≤ 2) && decide (2 < (↑(List.length v2) : Int)))
              (cond ((List.getD v2 (Int.toNat 2) (0, 0)).1 == 9)
                (Option.bind (g37 v1.1 v1.2.1 v1.2.2 v2) fun v5 =>
                cond (v5)
                  (cond (decide (0 ≤ 0) && decide (0 < (↑(List.length v2) : Int)))
                    (cond (v3.1.1 == (List.getD v2 (Int.toNat 0) (0, 0)).1 && (v3.1.2 == (List.getD v2 (Int.toNat 0) (0, 0)).2 && true))
                      (cond (v3.2)
                        (cond ((↑(List.length v4) : Int) == 1)
                          (cond (decide (0 ≤ 0) && decide (0 < (↑(List.length v4) : Int)))
                            (cond ((List.getD v4 (Int.toNat 0) (0, 0, [], [])).2.2.1 == [99])
                              (Option.bind (g45 v1.1 v1.2.1 v1.2.2 v2 8) fun v6 =>
                              cond (v6 == 2)
                                (Option.bind (g45 v1.1 v1.2.1 v1.2.2 [] 8) fun v7 =>
                                some (v7 == 4))
                                (some (false)))
                              (some (false)))
                            (none))
                          (some (false)))
                        (some (false)))
                      (some (false)))
                    (none))
                  (some (false)))
                (some (false)))
              (none))
            (some (false)))
          (none))
        (some (false)))
      (none))
noncomputable def i33 : FI := ⟨ps33, .ty .b, fun _ => g33⟩
theorem e33 : (fun a => i33.G a) = fnEval T Y env33 an i33.ps i33.rs true Try.f33.results.toList lv33 c33 := by kernel_rfl
theorem lo33 : loopsOf c33 = [] := by kernel_rfl
theorem ll33 : LoopsOk T Y env33 an lv33 (finO T true ps33 (.ty .b) Try.f33.results.toList) c33 := loopsOk_of (by rw [lo33]; exact trivial)
theorem k33 : FnOk Try.prog 33 i33 :=
  fn_ok (T := T) (Y := Y) (an := an) (env := env33) (fr := true) (lenv := lv33) mixed tok.1 tok.2 (envCons k76 (envCons k35 (envCons k40 (envCons k43 (envCons k37 (envCons k45 (envNil))))))) (fn := Try.f33) (c := c33) (by kernel_rfl) (by kernel_rfl) (by kernel_rfl) ll33 (fun a => congrFun e33 a)
/-! ### broker/brokerlaw33.valid -/
noncomputable def c32 : Code := Try.f32.body.getD .skip
noncomputable def env32 : Env := mkEnv [(49, i49)]
abbrev ps32 : List PSh := [.d (.st (.pr (.i .i64) (.pr (.i .i64) (.sl .u8)))), .d (.sl (.st (.pr (.i .i64) (.i .i64))))]
abbrev D32 : Type := pairD (.ty .b) (osOf ps32)
noncomputable def lv32 : Nat → Option (LI D32) := fun _ => none
noncomputable def g32 (a0_0 : Int) (a0_1 : Int) (a0_2 : List UInt8) (a1 : List (Int × Int)) : Option (Bool) :=
  cond (decide ((↑a0_2.length : Int) ≤ 4000))
    (cond (decide ((↑a1.length : Int) ≤ 60))
      (Option.bind (g49 a0_0 a0_1 a0_2) fun v1 =>
      some (v1 == 0))
      (some (false)))
    (some (false))
noncomputable def i32 : FI := ⟨ps32, .ty .b, fun ((a0_0, a0_1, a0_2), a1) => g32 a0_0 a0_1 a0_2 a1⟩
theorem e32 : (fun a => i32.G a) = fnEval T Y env32 an i32.ps i32.rs true Try.f32.results.toList lv32 c32 := by kernel_rfl
theorem lo32 : loopsOf c32 = [] := by kernel_rfl
theorem ll32 : LoopsOk T Y env32 an lv32 (finO T true ps32 (.ty .b) Try.f32.results.toList) c32 := loopsOk_of (by rw [lo32]; exact trivial)
theorem k32 : FnOk Try.prog 32 i32 :=
  fn_ok (T := T) (Y := Y) (an := an) (env := env32) (fr := true) (lenv := lv32) mixed tok.1 tok.2 (envCons k49 (envNil)) (fn := Try.f32) (c := c32) (by kernel_rfl) (by kernel_rfl) (by kernel_rfl) ll32 (fun a => congrFun e32 a)
end Go.Proofs.Ytkkelbakadbbhaa.EVT
