/- What functions compute, as printed (U, part A). -/
import Derived.Test.YtfadalgikdffeaaGreatTv13
import Derived.Test.YtfadalgikdffeaaGreatUT
set_option linter.unusedVariables false
set_option maxRecDepth 100000
set_option maxHeartbeats 0
namespace Go.Proofs.YtfadalgikdffeaaGreat.EVT
open Go Go.EV
/-! ### broker/member.Quorum -/
noncomputable def c71 : Code := Tryz.f71.body.getD .skip
noncomputable def env71 : Env := mkEnv []
abbrev ps71 : List PSh := [.d (.i .i64), .d (.i .i64)]
abbrev D71 : Type := pairD (.ty .b) (osOf ps71)
noncomputable def lv71 : Nat → Option (LI D71) := fun _ => none
noncomputable def g71 (a0 : Int) (a1 : Int) : Option (Bool) :=
  cond (decide (a1 ≥ 1))
    (some (decide (a0 > IntKind.i64.wrap (a1.tdiv 2))))
    (some (false))
noncomputable def i71 : FI := ⟨ps71, .ty .b, fun (a0, a1) => g71 a0 a1⟩
theorem e71 : (fun a => i71.G a) = fnEval T Y env71 an i71.ps i71.rs true Tryz.f71.results.toList lv71 c71 := by kernel_rfl
theorem lo71 : loopsOf c71 = [] := by kernel_rfl
theorem ll71 : LoopsOk T Y env71 an lv71 (finO T true ps71 (.ty .b) Tryz.f71.results.toList) c71 := loopsOk_of (by rw [lo71]; exact trivial)
theorem k71 : FnOk Tryz.prog 71 i71 :=
  fn_ok (T := T) (Y := Y) (an := an) (env := env71) (fr := true) (lenv := lv71) mixed tok.1 tok.2 (envNil) (fn := Tryz.f71) (c := c71) (by kernel_rfl) (by kernel_rfl) (by kernel_rfl) ll71 (fun a => congrFun e71 a)
/-! ### broker/brokerref39.Quorum -/
noncomputable def c72 : Code := Tryz.f72.body.getD .skip
noncomputable def env72 : Env := mkEnv []
abbrev ps72 : List PSh := [.d (.i .i64), .d (.i .i64)]
abbrev D72 : Type := pairD (.ty .b) (osOf ps72)
noncomputable def lv72 : Nat → Option (LI D72) := fun _ => none
noncomputable def g72 (a0 : Int) (a1 : Int) : Option (Bool) :=
  cond (decide (a1 ≥ 1))
    (some (decide (a0 > IntKind.i64.wrap (a1.tdiv 2))))
    (some (false))
noncomputable def i72 : FI := ⟨ps72, .ty .b, fun (a0, a1) => g72 a0 a1⟩
theorem e72 : (fun a => i72.G a) = fnEval T Y env72 an i72.ps i72.rs true Tryz.f72.results.toList lv72 c72 := by kernel_rfl
theorem lo72 : loopsOf c72 = [] := by kernel_rfl
theorem ll72 : LoopsOk T Y env72 an lv72 (finO T true ps72 (.ty .b) Tryz.f72.results.toList) c72 := loopsOk_of (by rw [lo72]; exact trivial)
theorem k72 : FnOk Tryz.prog 72 i72 :=
  fn_ok (T := T) (Y := Y) (an := an) (env := env72) (fr := true) (lenv := lv72) mixed tok.1 tok.2 (envNil) (fn := Tryz.f72) (c := c72) (by kernel_rfl) (by kernel_rfl) (by kernel_rfl) ll72 (fun a => congrFun e72 a)
/-! ### broker/brokerref40.in -/
noncomputable def c59 : Code := Tryz.f59.body.getD .skip
noncomputable def env59 : Env := mkEnv []
abbrev ps59 : List PSh := [.d (.i .i64), .d (.i .i64), .d (.i .i64)]
abbrev D59 : Type := pairD (.ty .b) (osOf ps59)
noncomputable def lv59 : Nat → Option (LI D59) := fun _ => none
noncomputable def g59 (a0 : Int) (a1 : Int) (a2 : Int) : Option (Bool) :=
  cond (decide (a1 ≤ a0))
    (some (decide (a0 ≤ a2)))
    (some (false))
noncomputable def i59 : FI := ⟨ps59, .ty .b, fun (a0, a1, a2) => g59 a0 a1 a2⟩
theorem e59 : (fun a => i59.G a) = fnEval T Y env59 an i59.ps i59.rs true Tryz.f59.results.toList lv59 c59 := by kernel_rfl
theorem lo59 : loopsOf c59 = [] := by kernel_rfl
theorem ll59 : LoopsOk T Y env59 an lv59 (finO T true ps59 (.ty .b) Tryz.f59.results.toList) c59 := loopsOk_of (by rw [lo59]; exact trivial)
theorem k59 : FnOk Tryz.prog 59 i59 :=
  fn_ok (T := T) (Y := Y) (an := an) (env := env59) (fr := true) (lenv := lv59) mixed tok.1 tok.2 (envNil) (fn := Tryz.f59) (c := c59) (by kernel_rfl) (by kernel_rfl) (by kernel_rfl) ll59 (fun a => congrFun e59 a)
/-! ### slices.Index[[]int,int] -/
noncomputable def c83 : Code := Tryz.f83.body.getD .skip
noncomputable def env83 : Env := mkEnv []
abbrev ps83 : List PSh := [.d (.sl (.i .i64)), .d (.i .i64)]
abbrev D83 : Type := pairD (.ty (.i .i64)) (osOf ps83)
def ns83_0 : NS := { slots := [(0, .ty (.sl (.i .i64))), (1, .ty (.i .i64)), (7, .ty (.i .i64)), (8, .ty (.i .i64))], roots := [] }
def ex83_0 : List (Nat × NS) := [(0, { slots := [], roots := [] })]
noncomputable def st83_0 (ih : ((List Int × Int × Int × Int) × (Unit)) → Option (((Unit) × (Unit)) ⊕ Int)) : ((List Int × Int × Int × Int) × (Unit)) → Option (((Unit) × (Unit)) ⊕ Int) := fun ((t0, t1, t7, t8), ()) =>
  cond (decide (t8 < t7))
    (cond (decide (0 ≤ t8) && decide (t8 < (↑t0.length : Int)))
      (cond (t1 == t0.getD t8.toNat 0)
        (some (Sum.inr t8))
        (ih ((t0, t1, t7, IntKind.i64.wrap (t8 + 1)), ())))
      (none))
    (some (Sum.inl ((), ())))
noncomputable def h83_0 : ((List Int × Int × Int × Int) × (Unit)) → Option (((Unit) × (Unit)) ⊕ Int) := loopN st83_0 fuel
noncomputable def l83_0 : LI D83 := ⟨ns83_0, ex83_0, h83_0⟩
noncomputable def lv83 : Nat → Option (LI D83) := fun q => if q = 2 then some l83_0 else (fun _ => none) q
noncomputable def g83 (a0 : List Int) (a1 : Int) : Option (Int) :=
  Option.bind (h83_0 ((a0, a1, (↑a0.length : Int), 0), ())) fun v1 =>
  match v1 with
  | .inl x2 =>
    some (-1)
  | .inr x2 =>
    some (x2)
noncomputable def i83 : FI := ⟨ps83, .ty (.i .i64), fun (a0, a1) => g83 a0 a1⟩
theorem s83_0 : st83_0 = stepEval T Y env83 an lv83 (finO T true ps83 (.ty (.i .i64)) Tryz.f83.results.toList) (loopAt c83 0) ns83_0 ex83_0 := by kernel_rfl
theorem e83 : (fun a => i83.G a) = fnEval T Y env83 an i83.ps i83.rs true Tryz.f83.results.toList lv83 c83 := by kernel_rfl
theorem lo83 : loopsOf c83 = [loopAt c83 0] := by kernel_rfl
theorem ll83 : LoopsOk T Y env83 an lv83 (finO T true ps83 (.ty (.i .i64)) Tryz.f83.results.toList) c83 := loopsOk_of (by rw [lo83]; exact ⟨loop1 (li := l83_0) (by kernel_rfl) (by kernel_rfl) s83_0, trivial⟩)
theorem k83 : FnOk Tryz.prog 83 i83 :=
  fn_ok (T := T) (Y := Y) (an := an) (env := env83) (fr := true) (lenv := lv83) mixed tok.1 tok.2 (envNil) (fn := Tryz.f83) (c := c83) (by kernel_rfl) (by kernel_rfl) (by kernel_rfl) ll83 (fun a => congrFun e83 a)
/-! ### slices.Contains[[]int,int] -/
noncomputable def c78 : Code := Tryz.f78.body.getD .skip
noncomputable def env78 : Env := mkEnv [(83, i83)]
abbrev ps78 : List PSh := [.d (.sl (.i .i64)), .d (.i .i64)]
abbrev D78 : Type := pairD (.ty .b) (osOf ps78)
noncomputable def lv78 : Nat → Option (LI D78) := fun _ => none
noncomputable def g78 (a0 : List Int) (a1 : Int) : Option (Bool) :=
  Option.bind (g83 a0 a1) fun v1 =>
  some (decide (v1 ≥ 0))
noncomputable def i78 : FI := ⟨ps78, .ty .b, fun (a0, a1) => g78 a0 a1⟩
theorem e78 : (fun a => i78.G a) = fnEval T Y env78 an i78.ps i78.rs true Tryz.f78.results.toList lv78 c78 := by kernel_rfl
theorem lo78 : loopsOf c78 = [] := by kernel_rfl
theorem ll78 : LoopsOk T Y env78 an lv78 (finO T true ps78 (.ty .b) Tryz.f78.results.toList) c78 := loopsOk_of (by rw [lo78]; exact trivial)
theorem k78 : FnOk Tryz.prog 78 i78 :=
  fn_ok (T := T) (Y := Y) (an := an) (env := env78) (fr := true) (lenv := lv78) mixed tok.1 tok.2 (envCons k83 (envNil)) (fn := Tryz.f78) (c := c78) (by kernel_rfl) (by kernel_rfl) (by kernel_rfl) ll78 (fun a => congrFun e78 a)
/-! ### broker/vote.New -/
noncomputable def c79 : Code := Tryz.f79.body.getD .skip
noncomputable def env79 : Env := mkEnv []
abbrev ps79 : List PSh := [.d (.i .i64), .d (.i .i64)]
abbrev D79 : Type := pairD (.tup (.pr (.ty QS6) (.ty (.i .i64)))) (osOf ps79)
noncomputable def lv79 : Nat → Option (LI D79) := fun _ => none
noncomputable def g79 (a0 : Int) (a1 : Int) : Option ((Int × Int × Int × Int × Int × Int × List Int) × Int) :=
  cond (decide (a1 < 1))
    (some (((0, 0, 0, 0, 0, 0, []), 1)))
    (cond (decide (a1 > 7))
      (some (((0, 0, 0, 0, 0, 0, []), 1)))
      (cond (decide (a0 < 0))
        (some (((0, 0, 0, 0, 0, 0, []), 1)))
        (cond (decide (a0 ≥ a1))
          (some (((0, 0, 0, 0, 0, 0, []), 1)))
          (some (((a0, a1, 0, 0, -1, -1, []), 0))))))
noncomputable def i79 : FI := ⟨ps79, .tup (.pr (.ty QS6) (.ty (.i .i64))), fun (a0, a1) => g79 a0 a1⟩
theorem e79 : (fun a => i79.G a) = fnEval T Y env79 an i79.ps i79.rs true Tryz.f79.results.toList lv79 c79 := by kernel_rfl
theorem lo79 : loopsOf c79 = [] := by kernel_rfl
theorem ll79 : LoopsOk T Y env79 an lv79 (finO T true ps79 (.tup (.pr (.ty QS6) (.ty (.i .i64)))) Tryz.f79.results.toList) c79 := loopsOk_of (by rw [lo79]; exact trivial)
theorem k79 : FnOk Tryz.prog 79 i79 :=
  fn_ok (T := T) (Y := Y) (an := an) (env := env79) (fr := true) (lenv := lv79) mixed tok.1 tok.2 (envNil) (fn := Tryz.f79) (c := c79) (by kernel_rfl) (by kernel_rfl) (by kernel_rfl) ll79 (fun a => congrFun e79 a)
/-! ### slices.Equal[[]int,int] -/
noncomputable def c29 : Code := Tryz.f29.body.getD .skip
noncomputable def env29 : Env := mkEnv []
abbrev ps29 : List PSh := [.d (.sl (.i .i64)), .d (.sl (.i .i64))]
abbrev D29 : Type := pairD (.ty .b) (osOf ps29)
def ns29_0 : NS := { slots := [(0, .ty (.sl (.i .i64))), (1, .ty (.sl (.i .i64))), (12, .ty (.i .i64)), (13, .ty (.i .i64))], roots := [] }
def ex29_0 : List (Nat × NS) := [(0, { slots := [], roots := [] })]
noncomputable def st29_0 (ih : ((List Int × List Int × Int × Int) × (Unit)) → Option (((Unit) × (Unit)) ⊕ Bool)) : ((List Int × List Int × Int × Int) × (Unit)) → Option (((Unit) × (Unit)) ⊕ Bool) := fun ((t0, t1, t12, t13), ()) =>
  cond (decide (t13 < t12))
    (cond (decide (0 ≤ t13) && decide (t13 < (↑t0.length : Int)))
      (cond (decide (0 ≤ t13) && decide (t13 < (↑t1.length : Int)))
        (cond (t0.getD t13.toNat 0 != t1.getD t13.toNat 0)
          (some (Sum.inr false))
          (ih ((t0, t1, t12, IntKind.i64.wrap (t13 + 1)), ())))
        (none))
      (none))
    (some (Sum.inl ((), ())))
noncomputable def h29_0 : ((List Int × List Int × Int × Int) × (Unit)) → Option (((Unit) × (Unit)) ⊕ Bool) := loopN st29_0 fuel
noncomputable def l29_0 : LI D29 := ⟨ns29_0, ex29_0, h29_0⟩
noncomputable def lv29 : Nat → Option (LI D29) := fun q => if q = 4 then some l29_0 else (fun _ => none) q
noncomputable def g29 (a0 : List Int) (a1 : List Int) : Option (Bool) :=
  cond ((↑a0.length : Int) != (↑a1.length : Int))
    (some (false))
    (Option.bind (h29_0 ((a0, a1, (↑a0.length : Int), 0), ())) fun v1 =>
    match v1 with
    | .inl x2 =>
      some (true)
    | .inr x2 =>
      some (x2))
noncomputable def i29 : FI := ⟨ps29, .ty .b, fun (a0, a1) => g29 a0 a1⟩
theorem s29_0 : st29_0 = stepEval T Y env29 an lv29 (finO T true ps29 (.ty .b) Tryz.f29.results.toList) (loopAt c29 0) ns29_0 ex29_0 := by kernel_rfl
theorem e29 : (fun a => i29.G a) = fnEval T Y env29 an i29.ps i29.rs true Tryz.f29.results.toList lv29 c29 := by kernel_rfl
theorem lo29 : loopsOf c29 = [loopAt c29 0] := by kernel_rfl
theorem ll29 : LoopsOk T Y env29 an lv29 (finO T true ps29 (.ty .b) Tryz.f29.results.toList) c29 := loopsOk_of (by rw [lo29]; exact ⟨loop1 (li := l29_0) (by kernel_rfl) (by kernel_rfl) s29_0, trivial⟩)
theorem k29 : FnOk Tryz.prog 29 i29 :=
  fn_ok (T := T) (Y := Y) (an := an) (env := env29) (fr := true) (lenv := lv29) mixed tok.1 tok.2 (envNil) (fn := Tryz.f29) (c := c29) (by kernel_rfl) (by kernel_rfl) (by kernel_rfl) ll29 (fun a => congrFun e29 a)
/-! ### broker/brokerref40.Same -/
noncomputable def c41 : Code := Tryz.f41.body.getD .skip
noncomputable def env41 : Env := mkEnv [(29, i29)]
abbrev ps41 : List PSh := [.d QS6, .d QS6]
abbrev D41 : Type := pairD (.ty .b) (osOf ps41)
noncomputable def lv41 : Nat → Option (LI D41) := fun _ => none
noncomputable def g41 (a0_0 : Int) (a0_1 : Int) (a0_2 : Int) (a0_3 : Int) (a0_4 : Int) (a0_5 : Int) (a0_6 : List Int) (a1_0 : Int) (a1_1 : Int) (a1_2 : Int) (a1_3 : Int) (a1_4 : Int) (a1_5 : Int) (a1_6 : List Int) : Option (Bool) :=
  cond (a0_0 == a1_0)
    (cond (a0_1 == a1_1)
      (cond (a0_2 == a1_2)
        (cond (a0_3 == a1_3)
          (cond (a0_4 == a1_4)
            (cond (a0_5 == a1_5)
              (Option.bind (g29 a0_6 a1_6) fun v1 =>
              some (v1))
              (some (false)))
            (some (false)))
          (some (false)))
        (some (false)))
      (some (false)))
    (some (false))
noncomputable def i41 : FI := ⟨ps41, .ty .b, fun ((a0_0, a0_1, a0_2, a0_3, a0_4, a0_5, a0_6), (a1_0, a1_1, a1_2, a1_3, a1_4, a1_5, a1_6)) => g41 a0_0 a0_1 a0_2 a0_3 a0_4 a0_5 a0_6 a1_0 a1_1 a1_2 a1_3 a1_4 a1_5 a1_6⟩
theorem e41 : (fun a => i41.G a) = fnEval T Y env41 an i41.ps i41.rs true Tryz.f41.results.toList lv41 c41 := by kernel_rfl
theorem lo41 : loopsOf c41 = [] := by kernel_rfl
theorem ll41 : LoopsOk T Y env41 an lv41 (finO T true ps41 (.ty .b) Tryz.f41.results.toList) c41 := loopsOk_of (by rw [lo41]; exact trivial)
theorem k41 : FnOk Tryz.prog 41 i41 :=
  fn_ok (T := T) (Y := Y) (an := an) (env := env41) (fr := true) (lenv := lv41) mixed tok.1 tok.2 (envCons k29 (envNil)) (fn := Tryz.f41) (c := c41) (by kernel_rfl) (by kernel_rfl) (by kernel_rfl) ll41 (fun a => congrFun e41 a)
/-! ### broker/vote.consistent -/
noncomputable def c80 : Code := Tryz.f80.body.getD .skip
noncomputable def env80 : Env := mkEnv [(78, i78), (71, i71)]
abbrev ps80 : List PSh := [.d QS6]
abbrev D80 : Type := pairD (.ty .b) (osOf ps80)
noncomputable def lv80 : Nat → Option (LI D80) := fun _ => none
noncomputable def g80 (a0_0 : Int) (a0_1 : Int) (a0_2 : Int) (a0_3 : Int) (a0_4 : Int) (a0_5 : Int) (a0_6 : List Int) : Option (Bool) :=
  cond (a0_2 == 0)
    (cond (a0_3 != 0)
      (some (false))
      (cond (a0_4 != -1)
        (some (false))
        (cond (a0_5 != -1)
          (some (false))
          (cond (a0_3 == 1)
            (cond (a0_4 == a0_0)
              (cond (a0_5 == -1)
                (Option.bind (g78 a0_6 a0_0) fun v1 =>
                cond (v1)
                  (Option.bind (g71 (↑a0_6.length : Int) a0_1) fun v2 =>
                  some (!v2))
                  (some (false)))
                (some (false)))
              (some (false)))
            (cond (a0_3 == 2)
              (cond (a0_4 == a0_0)
                (cond (a0_5 == a0_0)
                  (some ((↑a0_6.length : Int) == 0))
                  (some (false)))
                (some (false)))
              (cond ((↑a0_6.length : Int) == 0)
                (some (a0_5 != a0_0))
                (some (false))))))))
    (cond (a0_3 == 1)
      (cond (a0_4 == a0_0)
        (cond (a0_5 == -1)
          (Option.bind (g78 a0_6 a0_0) fun v3 =>
          cond (v3)
            (Option.bind (g71 (↑a0_6.length : Int) a0_1) fun v4 =>
            some (!v4))
            (some (false)))
          (some (false)))
        (some (false)))
      (cond (a0_3 == 2)
        (cond (a0_4 == a0_0)
          (cond (a0_5 == a0_0)
            (some ((↑a0_6.length : Int) == 0))
            (some (false)))
          (some (false)))
        (cond ((↑a0_6.length : Int) == 0)
          (some (a0_5 != a0_0))
          (some (false)))))
noncomputable def i80 : FI := ⟨ps80, .ty .b, fun (a0_0, a0_1, a0_2, a0_3, a0_4, a0_5, a0_6) => g80 a0_0 a0_1 a0_2 a0_3 a0_4 a0_5 a0_6⟩
theorem e80 : (fun a => i80.G a) = fnEval T Y env80 an i80.ps i80.rs true Tryz.f80.results.toList lv80 c80 := by kernel_rfl
theorem lo80 : loopsOf c80 = [] := by kernel_rfl
theorem ll80 : LoopsOk T Y env80 an lv80 (finO T true ps80 (.ty .b) Tryz.f80.results.toList) c80 := loopsOk_of (by rw [lo80]; exact trivial)
theorem k80 : FnOk Tryz.prog 80 i80 :=
  fn_ok (T := T) (Y := Y) (an := an) (env := env80) (fr := true) (lenv := lv80) mixed tok.1 tok.2 (envCons k78 (envCons k71 (envNil))) (fn := Tryz.f80) (c := c80) (by kernel_rfl) (by kernel_rfl) (by kernel_rfl) ll80 (fun a => congrFun e80 a)
/-! ### broker/brokerref40.role -/
noncomputable def c60 : Code := Tryz.f60.body.getD .skip
noncomputable def env60 : Env := mkEnv [(78, i78), (72, i72)]
abbrev ps60 : List PSh := [.d QS6]
abbrev D60 : Type := pairD (.ty .b) (osOf ps60)
noncomputable def lv60 : Nat → Option (LI D60) := fun _ => none
noncomputable def g60 (a0_0 : Int) (a0_1 : Int) (a0_2 : Int) (a0_3 : Int) (a0_4 : Int) (a0_5 : Int) (a0_6 : List Int) : Option (Bool) :=
  cond (a0_2 == 0)
    (cond (a0_3 != 0)
      (some (false))
      (cond (a0_4 != -1)
        (some (false))
        (cond (a0_5 != -1)
          (some (false))
          (cond (a0_3 == 0)
            (cond ((↑a0_6.length : Int) == 0)
              (some (a0_5 != a0_0))
              (some (false)))
            (cond (a0_3 == 1)
              (cond (a0_4 == a0_0)
                (cond (a0_5 == -1)
                  (Option.bind (g78 a0_6 a0_0) fun v1 =>
                  cond (v1)
                    (Option.bind (g72 (↑a0_6.length : Int) a0_1) fun v2 =>
                    some (!v2))
                    (some (false)))
                  (some (false)))
                (some (false)))
              (cond (a0_4 == a0_0)
                (cond (a0_5 == a0_0)
                  (some ((↑a0_6.length : Int) == 0))
                  (some (false)))
                (some (false))))))))
    (cond (a0_3 == 0)
      (cond ((↑a0_6.length : Int) == 0)
        (some (a0_5 != a0_0))
        (some (false)))
      (cond (a0_3 == 1)
        (cond (a0_4 == a0_0)
          (cond (a0_5 == -1)
            (Option.bind (g78 a0_6 a0_0) fun v3 =>
            cond (v3)
              (Option.bind (g72 (↑a0_6.length : Int) a0_1) fun v4 =>
              some (!v4))
              (some (false)))
            (some (false)))
          (some (false)))
        (cond (a0_4 == a0_0)
          (cond (a0_5 == a0_0)
            (some ((↑a0_6.length : Int) == 0))
            (some (false)))
          (some (false)))))
noncomputable def i60 : FI := ⟨ps60, .ty .b, fun (a0_0, a0_1, a0_2, a0_3, a0_4, a0_5, a0_6) => g60 a0_0 a0_1 a0_2 a0_3 a0_4 a0_5 a0_6⟩
theorem e60 : (fun a => i60.G a) = fnEval T Y env60 an i60.ps i60.rs true Tryz.f60.results.toList lv60 c60 := by kernel_rfl
theorem lo60 : loopsOf c60 = [] := by kernel_rfl
theorem ll60 : LoopsOk T Y env60 an lv60 (finO T true ps60 (.ty .b) Tryz.f60.results.toList) c60 := loopsOk_of (by rw [lo60]; exact trivial)
theorem k60 : FnOk Tryz.prog 60 i60 :=
  fn_ok (T := T) (Y := Y) (an := an) (env := env60) (fr := true) (lenv := lv60) mixed tok.1 tok.2 (envCons k78 (envCons k72 (envNil))) (fn := Tryz.f60) (c := c60) (by kernel_rfl) (by kernel_rfl) (by kernel_rfl) ll60 (fun a => congrFun e60 a)
/-! ### broker/vote.Check -/
noncomputable def c62 : Code := Tryz.f62.body.getD .skip
noncomputable def env62 : Env := mkEnv [(79, i79), (80, i80)]
abbrev ps62 : List PSh := [.d QS6]
abbrev D62 : Type := pairD (.ty (.i .i64)) (osOf ps62)
def ns62_0 : NS := { slots := [(1, .pt 1 []), (62, .ty (.sl (.i .i64))), (63, .ty (.i .i64)), (64, .ty (.i .i64))], roots := [(1, .ty QS6)] }
def ex62_0 : List (Nat × NS) := [(0, { slots := [(1, .pt 1 [])], roots := [(1, .ty QS6)] })]
noncomputable def st62_0 (ih : ((List Int × Int × Int) × QT3) → Option (((Unit) × QT3) ⊕ Int)) : ((List Int × Int × Int) × QT3) → Option (((Unit) × QT3) ⊕ Int) := fun ((t62, t63, t64), (r1_0, r1_1, r1_2, r1_3, r1_4, r1_5, r1_6)) =>
  cond (decide (t64 < t63))
    (cond (decide (0 ≤ t64) && decide (t64 < (↑t62.length : Int)))
      (cond (decide (t62.getD t64.toNat 0 < 0))
        (some (Sum.inr 1))
        (cond (decide (t62.getD t64.toNat 0 ≥ r1_1))
          (some (Sum.inr 1))
          (cond (decide (t64 > 0))
            (cond (decide (0 ≤ IntKind.i64.wrap (t64 - 1)) && decide (IntKind.i64.wrap (t64 - 1) < (↑r1_6.length : Int)))
              (cond (decide (t62.getD t64.toNat 0 ≤ r1_6.getD (IntKind.i64.wrap (t64 - 1)).toNat 0))
                (some (Sum.inr 22))
                (ih ((t62, t63, IntKind.i64.wrap (t64 + 1)), r1_0, r1_1, r1_2, r1_3, r1_4, r1_5, r1_6)))
              (none))
            (ih ((t62, t63, IntKind.i64.wrap (t64 + 1)), r1_0, r1_1, r1_2, r1_3, r1_4, r1_5, r1_6)))))
      (none))
    (some (Sum.inl ((), r1_0, r1_1, r1_2, r1_3, r1_4, r1_5, r1_6)))
noncomputable def h62_0 : ((List Int × Int × Int) × QT3) → Option (((Unit) × QT3) ⊕ Int) := loopN st62_0 fuel
noncomputable def l62_0 : LI D62 := ⟨ns62_0, ex62_0, h62_0⟩
noncomputable def lv62 : Nat → Option (LI D62) := fun q => if q = 11 then some l62_0 else (fun _ => none) q
noncomputable def g62 (a0_0 : Int) (a0_1 : Int) (a0_2 : Int) (a0_3 : Int) (a0_4 : Int) (a0_5 : Int) (a0_6 : List Int) : Option (Int) :=
  Option.bind (g79 a0_0 a0_1) fun v1 =>
  cond (v1.2 != 0)
    (some (v1.2))
    (cond (decide (a0_2 < 0))
      (some (1))
      (cond (decide (a0_2 > 1099511627776))
        (some (1))
        (cond (a0_3 != 0)
          (cond (a0_3 != 1)
            (cond (a0_3 != 2)
              (some (10))
              (cond (decide (a0_4 < -1))
                (some (1))
                (cond (decide (a0_4 ≥ a0_1))
                  (some (1))
                  (cond (decide (a0_5 < -1))
                    (some (1))
                    (cond (decide (a0_5 ≥ a0_1))
                      (some (1))
                      (Option.bind (h62_0 ((a0_6, (↑a0_6.length : Int), 0), a0_0, a0_1, a0_2, a0_3, a0_4, a0_5, a0_6)) fun v2 =>
                      match v2 with
                      | .inl x3 =>
                        Option.bind (g80 x3.2.1 x3.2.2.1 x3.2.2.2.1 x3.2.2.2.2.1 x3.2.2.2.2.2.1 x3.2.2.2.2.2.2.1 x3.2.2.2.2.2.2.2) fun v4 =>
                        cond (!v4)
                          (some (9))
                          (some (0))
                      | .inr x3 =>
                        some (x3)))))))
            (cond (decide (a0_4 < -1))
              (some (1))
              (cond (decide (a0_4 ≥ a0_1))
                (some (1))
                (cond (decide (a0_5 < -1))
                  (some (1))
                  (cond (decide (a0_5 ≥ a0_1))
                    (some (1))
                    (Option.bind (h62_0 ((a0_6, (↑a0_6.length : Int), 0), a0_0, a0_1, a0_2, a0_3, a0_4, a0_5, a0_6)) fun v5 =>
                    match v5 with
                    | .inl x6 =>
                      Option.bind (g80 x6.2.1 x6.2.2.1 x6.2.2.2.1 x6.2.2.2.2.1 x6.2.2.2.2.2.1 x6.2.2.2.2.2.2.1 x6.2.2.2.2.2.2.2) fun v7 =>
                      cond (!v7)
                        (some (9))
                        (some (0))
                    | .inr x6 =>
                      some (x6)))))))
          (cond (decide (a0_4 < -1))
            (some (1))
            (cond (decide (a0_4 ≥ a0_1))
              (some (1))
              (cond (decide (a0_5 < -1))
                (some (1))
                (cond (decide (a0_5 ≥ a0_1))
                  (some (1))
                  (Option.bind (h62_0 ((a0_6, (↑a0_6.length : Int), 0), a0_0, a0_1, a0_2, a0_3, a0_4, a0_5, a0_6)) fun v8 =>
                  match v8 with
                  | .inl x9 =>
                    Option.bind (g80 x9.2.1 x9.2.2.1 x9.2.2.2.1 x9.2.2.2.2.1 x9.2.2.2.2.2.1 x9.2.2.2.2.2.2.1 x9.2.2.2.2.2.2.2) fun v10 =>
                    cond (!v10)
                      (some (9))
                      (some (0))
                  | .inr x9 =>
                    some (x9)))))))))
noncomputable def i62 : FI := ⟨ps62, .ty (.i .i64), fun (a0_0, a0_1, a0_2, a0_3, a0_4, a0_5, a0_6) => g62 a0_0 a0_1 a0_2 a0_3 a0_4 a0_5 a0_6⟩
theorem s62_0 : st62_0 = stepEval T Y env62 an lv62 (finO T true ps62 (.ty (.i .i64)) Tryz.f62.results.toList) (loopAt c62 0) ns62_0 ex62_0 := by kernel_rfl
theorem e62 : (fun a => i62.G a) = fnEval T Y env62 an i62.ps i62.rs true Tryz.f62.results.toList lv62 c62 := by kernel_rfl
theorem lo62 : loopsOf c62 = [loopAt c62 0] := by kernel_rfl
theorem ll62 : LoopsOk T Y env62 an lv62 (finO T true ps62 (.ty (.i .i64)) Tryz.f62.results.toList) c62 := loopsOk_of (by rw [lo62]; exact ⟨loop1 (li := l62_0) (by kernel_rfl) (by kernel_rfl) s62_0, trivial⟩)
theorem k62 : FnOk Tryz.prog 62 i62 :=
  fn_ok (T := T) (Y := Y) (an := an) (env := env62) (fr := true) (lenv := lv62) mixed tok.1 tok.2 (envCons k79 (envCons k80 (envNil))) (fn := Tryz.f62) (c := c62) (by kernel_rfl) (by kernel_rfl) (by kernel_rfl) ll62 (fun a => congrFun e62 a)
/-! ### broker/brokerref40.Check -/
noncomputable def c24 : Code := Tryz.f24.body.getD .skip
noncomputable def env24 : Env := mkEnv [(59, i59), (60, i60)]
abbrev ps24 : List PSh := [.d QS6]
abbrev D24 : Type := pairD (.ty (.i .i64)) (osOf ps24)
def ns24_0 : NS := { slots := [(1, .pt 1 []), (45, .ty (.sl (.i .i64))), (46, .ty (.i .i64)), (47, .ty (.i .i64))], roots := [(1, .ty QS6)] }
def ex24_0 : List (Nat × NS) := [(0, { slots := [(1, .pt 1 [])], roots := [(1, .ty QS6)] })]
noncomputable def st24_0 (ih : ((List Int × Int × Int) × QT3) → Option (((Unit) × QT3) ⊕ Int)) : ((List Int × Int × Int) × QT3) → Option (((Unit) × QT3) ⊕ Int) := fun ((t45, t46, t47), (r1_0, r1_1, r1_2, r1_3, r1_4, r1_5, r1_6)) =>
  cond (decide (t47 < t46))
    (cond (decide (0 ≤ t47) && decide (t47 < (↑t45.length : Int)))
      (Option.bind (g59 (t45.getD t47.toNat 0) 0 (IntKind.i64.wrap (r1_1 - 1))) fun v1 =>
      cond (!v1)
        (some (Sum.inr 1))
        (cond (decide (t47 > 0))
          (cond (decide (0 ≤ IntKind.i64.wrap (t47 - 1)) && decide (IntKind.i64.wrap (t47 - 1) < (↑r1_6.length : Int)))
            (cond (decide (t45.getD t47.toNat 0 ≤ r1_6.getD (IntKind.i64.wrap (t47 - 1)).toNat 0))
              (some (Sum.inr 22))
              (ih ((t45, t46, IntKind.i64.wrap (t47 + 1)), r1_0, r1_1, r1_2, r1_3, r1_4, r1_5, r1_6)))
            (none))
          (ih ((t45, t46, IntKind.i64.wrap (t47 + 1)), r1_0, r1_1, r1_2, r1_3, r1_4, r1_5, r1_6))))
      (none))
    (some (Sum.inl ((), r1_0, r1_1, r1_2, r1_3, r1_4, r1_5, r1_6)))
noncomputable def h24_0 : ((List Int × Int × Int) × QT3) → Option (((Unit) × QT3) ⊕ Int) := loopN st24_0 fuel
noncomputable def l24_0 : LI D24 := ⟨ns24_0, ex24_0, h24_0⟩
noncomputable def lv24 : Nat → Option (LI D24) := fun q => if q = 8 then some l24_0 else (fun _ => none) q
noncomputable def g24 (a0_0 : Int) (a0_1 : Int) (a0_2 : Int) (a0_3 : Int) (a0_4 : Int) (a0_5 : Int) (a0_6 : List Int) : Option (Int) :=
  Option.bind (g59 a0_1 1 7) fun v1 =>
  cond (!v1)
    (some (1))
    (Option.bind (g59 a0_0 0 (IntKind.i64.wrap (a0_1 - 1))) fun v2 =>
    cond (!v2)
      (some (1))
      (Option.bind (g59 a0_2 0 1099511627776) fun v3 =>
      cond (!v3)
        (some (1))
        (Option.bind (g59 a0_3 0 2) fun v4 =>
        cond (!v4)
          (some (10))
          (Option.bind (g59 a0_4 (-1) (IntKind.i64.wrap (a0_1 - 1))) fun v5 =>
          cond (!v5)
            (some (1))
            (Option.bind (g59 a0_5 (-1) (IntKind.i64.wrap (a0_1 - 1))) fun v6 =>
            cond (!v6)
              (some (1))
              (Option.bind (h24_0 ((a0_6, (↑a0_6.length : Int), 0), a0_0, a0_1, a0_2, a0_3, a0_4, a0_5, a0_6)) fun v7 =>
              match v7 with
              | .inl x8 =>
                Option.bind (g60 x8.2.1 x8.2.2.1 x8.2.2.2.1 x8.2.2.2.2.1 x8.2.2.2.2.2.1 x8.2.2.2.2.2.2.1 x8.2.2.2.2.2.2.2) fun v9 =>
                cond (!v9)
                  (some (9))
                  (some (0))
              | .inr x8 =>
                some (x8)))))))
noncomputable def i24 : FI := ⟨ps24, .ty (.i .i64), fun (a0_0, a0_1, a0_2, a0_3, a0_4, a0_5, a0_6) => g24 a0_0 a0_1 a0_2 a0_3 a0_4 a0_5 a0_6⟩
theorem s24_0 : st24_0 = stepEval T Y env24 an lv24 (finO T true ps24 (.ty (.i .i64)) Tryz.f24.results.toList) (loopAt c24 0) ns24_0 ex24_0 := by kernel_rfl
theorem e24 : (fun a => i24.G a) = fnEval T Y env24 an i24.ps i24.rs true Tryz.f24.results.toList lv24 c24 := by kernel_rfl
theorem lo24 : loopsOf c24 = [loopAt c24 0] := by kernel_rfl
theorem ll24 : LoopsOk T Y env24 an lv24 (finO T true ps24 (.ty (.i .i64)) Tryz.f24.results.toList) c24 := loopsOk_of (by rw [lo24]; exact ⟨loop1 (li := l24_0) (by kernel_rfl) (by kernel_rfl) s24_0, trivial⟩)
theorem k24 : FnOk Tryz.prog 24 i24 :=
  fn_ok (T := T) (Y := Y) (an := an) (env := env24) (fr := true) (lenv := lv24) mixed tok.1 tok.2 (envCons k59 (envCons k60 (envNil))) (fn := Tryz.f24) (c := c24) (by kernel_rfl) (by kernel_rfl) (by kernel_rfl) ll24 (fun a => congrFun e24 a)
/-! ### broker/brokerref41.in -/
noncomputable def c25 : Code := Tryz.f25.body.getD .skip
noncomputable def env25 : Env := mkEnv []
abbrev ps25 : List PSh := [.d (.i .i64), .d (.i .i64), .d (.i .i64)]
abbrev D25 : Type := pairD (.ty .b) (osOf ps25)
noncomputable def lv25 : Nat → Option (LI D25) := fun _ => none
noncomputable def g25 (a0 : Int) (a1 : Int) (a2 : Int) : Option (Bool) :=
  cond (decide (a1 ≤ a0))
    (some (decide (a0 ≤ a2)))
    (some (false))
noncomputable def i25 : FI := ⟨ps25, .ty .b, fun (a0, a1, a2) => g25 a0 a1 a2⟩
theorem e25 : (fun a => i25.G a) = fnEval T Y env25 an i25.ps i25.rs true Tryz.f25.results.toList lv25 c25 := by kernel_rfl
theorem lo25 : loopsOf c25 = [] := by kernel_rfl
theorem ll25 : LoopsOk T Y env25 an lv25 (finO T true ps25 (.ty .b) Tryz.f25.results.toList) c25 := loopsOk_of (by rw [lo25]; exact trivial)
theorem k25 : FnOk Tryz.prog 25 i25 :=
  fn_ok (T := T) (Y := Y) (an := an) (env := env25) (fr := true) (lenv := lv25) mixed tok.1 tok.2 (envNil) (fn := Tryz.f25) (c := c25) (by kernel_rfl) (by kernel_rfl) (by kernel_rfl) ll25 (fun a => congrFun e25 a)
/-! ### broker/brokerref41.TermAt -/
noncomputable def c26 : Code := Tryz.f26.body.getD .skip
noncomputable def env26 : Env := mkEnv []
abbrev ps26 : List PSh := [.d (.sl (.st (.pr (.i .i64) .s))), .d (.i .i64)]
abbrev D26 : Type := pairD (.ty (.i .i64)) (osOf ps26)
noncomputable def lv26 : Nat → Option (LI D26) := fun _ => none
noncomputable def g26 (a0 : List (Int × List UInt8)) (a1 : Int) : Option (Int) :=
  cond (decide (a1 < 1))
    (some (0))
    (cond (decide (a1 > (↑a0.length : Int)))
      (some (0))
      (cond (decide (0 ≤ IntKind.i64.wrap (a1 - 1)) && decide (IntKind.i64.wrap (a1 - 1) < (↑a0.length : Int)))
        (some ((a0.getD (IntKind.i64.wrap (a1 - 1)).toNat (0, [])).1))
        (none)))
noncomputable def i26 : FI := ⟨ps26, .ty (.i .i64), fun (a0, a1) => g26 a0 a1⟩
theorem e26 : (fun a => i26.G a) = fnEval T Y env26 an i26.ps i26.rs true Tryz.f26.results.toList lv26 c26 := by kernel_rfl
theorem lo26 : loopsOf c26 = [] := by kernel_rfl
theorem ll26 : LoopsOk T Y env26 an lv26 (finO T true ps26 (.ty (.i .i64)) Tryz.f26.results.toList) c26 := loopsOk_of (by rw [lo26]; exact trivial)
theorem k26 : FnOk Tryz.prog 26 i26 :=
  fn_ok (T := T) (Y := Y) (an := an) (env := env26) (fr := true) (lenv := lv26) mixed tok.1 tok.2 (envNil) (fn := Tryz.f26) (c := c26) (by kernel_rfl) (by kernel_rfl) (by kernel_rfl) ll26 (fun a => congrFun e26 a)
/-! ### broker/brokerref41.Leads -/
noncomputable def c27 : Code := Tryz.f27.body.getD .skip
noncomputable def env27 : Env := mkEnv []
abbrev ps27 : List PSh := [.d QS1]
abbrev D27 : Type := pairD (.ty .b) (osOf ps27)
noncomputable def lv27 : Nat → Option (LI D27) := fun _ => none
noncomputable def g27 (a0_0_0 : Int) (a0_0_1 : Int) (a0_0_2 : Int) (a0_0_3 : Int) (a0_0_4 : Int) (a0_0_5 : Int) (a0_0_6 : List Int) (a0_1 : Int) (a0_2 : List (Int × List UInt8)) (a0_3 : List Int) : Option (Bool) :=
  some (a0_0_3 == 2)
noncomputable def i27 : FI := ⟨ps27, .ty .b, fun ((a0_0_0, a0_0_1, a0_0_2, a0_0_3, a0_0_4, a0_0_5, a0_0_6), a0_1, a0_2, a0_3) => g27 a0_0_0 a0_0_1 a0_0_2 a0_0_3 a0_0_4 a0_0_5 a0_0_6 a0_1 a0_2 a0_3⟩
theorem e27 : (fun a => i27.G a) = fnEval T Y env27 an i27.ps i27.rs true Tryz.f27.results.toList lv27 c27 := by kernel_rfl
theorem lo27 : loopsOf c27 = [] := by kernel_rfl
theorem ll27 : LoopsOk T Y env27 an lv27 (finO T true ps27 (.ty .b) Tryz.f27.results.toList) c27 := loopsOk_of (by rw [lo27]; exact trivial)
theorem k27 : FnOk Tryz.prog 27 i27 :=
  fn_ok (T := T) (Y := Y) (an := an) (env := env27) (fr := true) (lenv := lv27) mixed tok.1 tok.2 (envNil) (fn := Tryz.f27) (c := c27) (by kernel_rfl) (by kernel_rfl) (by kernel_rfl) ll27 (fun a => congrFun e27 a)
/-! ### broker/replica.leads -/
noncomputable def c32 : Code := Tryz.f32.body.getD .skip
noncomputable def env32 : Env := mkEnv []
abbrev ps32 : List PSh := [.d QS1]
abbrev D32 : Type := pairD (.ty .b) (osOf ps32)
noncomputable def lv32 : Nat → Option (LI D32) := fun _ => none
noncomputable def g32 (a0_0_0 : Int) (a0_0_1 : Int) (a0_0_2 : Int) (a0_0_3 : Int) (a0_0_4 : Int) (a0_0_5 : Int) (a0_0_6 : List Int) (a0_1 : Int) (a0_2 : List (Int × List UInt8)) (a0_3 : List Int) : Option (Bool) :=
  some (a0_0_3 == 2)
noncomputable def i32 : FI := ⟨ps32, .ty .b, fun ((a0_0_0, a0_0_1, a0_0_2, a0_0_3, a0_0_4, a0_0_5, a0_0_6), a0_1, a0_2, a0_3) => g32 a0_0_0 a0_0_1 a0_0_2 a0_0_3 a0_0_4 a0_0_5 a0_0_6 a0_1 a0_2 a0_3⟩
theorem e32 : (fun a => i32.G a) = fnEval T Y env32 an i32.ps i32.rs true Tryz.f32.results.toList lv32 c32 := by kernel_rfl
theorem lo32 : loopsOf c32 = [] := by kernel_rfl
theorem ll32 : LoopsOk T Y env32 an lv32 (finO T true ps32 (.ty .b) Tryz.f32.results.toList) c32 := loopsOk_of (by rw [lo32]; exact trivial)
theorem k32 : FnOk Tryz.prog 32 i32 :=
  fn_ok (T := T) (Y := Y) (an := an) (env := env32) (fr := true) (lenv := lv32) mixed tok.1 tok.2 (envNil) (fn := Tryz.f32) (c := c32) (by kernel_rfl) (by kernel_rfl) (by kernel_rfl) ll32 (fun a => congrFun e32 a)
/-! ### broker/replica.checkLog -/
noncomputable def c63 : Code := Tryz.f63.body.getD .skip
noncomputable def env63 : Env := mkEnv []
abbrev ps63 : List PSh := [.d QS1]
abbrev D63 : Type := pairD (.ty (.i .i64)) (osOf ps63)
def ns63_0 : NS := { slots := [(1, .pt 1 []), (10, .ty (.sl (.st (.pr (.i .i64) .s)))), (11, .ty (.i .i64)), (12, .ty (.i .i64))], roots := [(1, .ty QS1)] }
def ex63_0 : List (Nat × NS) := [(0, { slots := [(1, .pt 1 [])], roots := [(1, .ty QS1)] })]
noncomputable def st63_0 (ih : (((List (Int × List UInt8)) × Int × Int) × ((Int × Int × Int × Int × Int × Int × List Int) × Int × List (Int × List UInt8) × List Int)) → Option (((Unit) × ((Int × Int × Int × Int × Int × Int × List Int) × Int × List (Int × List UInt8) × List Int)) ⊕ Int)) : (((List (Int × List UInt8)) × Int × Int) × ((Int × Int × Int × Int × Int × Int × List Int) × Int × List (Int × List UInt8) × List Int)) → Option (((Unit) × ((Int × Int × Int × Int × Int × Int × List Int) × Int × List (Int × List UInt8) × List Int)) ⊕ Int) := fun ((t10, t11, t12), ((r1_0_0, r1_0_1, r1_0_2, r1_0_3, r1_0_4, r1_0_5, r1_0_6), r1_1, r1_2, r1_3)) =>
  cond (decide (t12 < t11))
    (cond (decide (0 ≤ t12) && decide (t12 < (↑t10.length : Int)))
      (cond (decide ((t10.getD t12.toNat (0, [])).1 < 1))
        (some (Sum.inr 1))
        (cond (decide ((t10.getD t12.toNat (0, [])).1 > r1_0_2))
          (some (Sum.inr 1))
          (cond (decide (t12 > 0))
            (cond (decide (0 ≤ IntKind.i64.wrap (t12 - 1)) && decide (IntKind.i64.wrap (t12 - 1) < (↑r1_2.length : Int)))
              (cond (decide ((t10.getD t12.toNat (0, [])).1 < (r1_2.getD (IntKind.i64.wrap (t12 - 1)).toNat (0, [])).1))
                (some (Sum.inr 22))
                (cond (decide ((↑(List.length (t10.getD t12.toNat (0, [])).2) : Int) > 65536))
                  (some (Sum.inr 5))
                  (ih ((t10, t11, IntKind.i64.wrap (t12 + 1)), (r1_0_0, r1_0_1, r1_0_2, r1_0_3, r1_0_4, r1_0_5, r1_0_6), r1_1, r1_2, r1_3))))
              (none))
            (cond (decide ((↑(List.length (t10.getD t12.toNat (0, [])).2) : Int) > 65536))
              (some (Sum.inr 5))
              (ih ((t10, t11, IntKind.i64.wrap (t12 + 1)), (r1_0_0, r1_0_1, r1_0_2, r1_0_3, r1_0_4, r1_0_5, r1_0_6), r1_1, r1_2, r1_3))))))
      (none))
    (some (Sum.inl ((), (r1_0_0, r1_0_1, r1_0_2, r1_0_3, r1_0_4, r1_0_5, r1_0_6), r1_1, r1_2, r1_3)))
noncomputable def h63_0 : (((List (Int × List UInt8)) × Int × Int) × ((Int × Int × Int × Int × Int × Int × List Int) × Int × List (Int × List UInt8) × List Int)) → Option (((Unit) × ((Int × Int × Int × Int × Int × Int × List Int) × Int × List (Int × List UInt8) × List Int)) ⊕ Int) := loopN st63_0 fuel
noncomputable def l63_0 : LI D63 := ⟨ns63_0, ex63_0, h63_0⟩
noncomputable def lv63 : Nat → Option (LI D63) := fun q => if q = 4 then some l63_0 else (fun _ => none) q
noncomputable def g63 (a0_0_0 : Int) (a0_0_1 : Int) (a0_0_2 : Int) (a0_0_3 : Int) (a0_0_4 : Int) (a0_0_5 : Int) (a0_0_6 : List Int) (a0_1 : Int) (a0_2 : List (Int × List UInt8)) (a0_3 : List Int) : Option (Int) :=
  cond (decide ((↑a0_2.length : Int) > 4096))
    (some (5))
    (Option.bind (h63_0 ((a0_2, (↑a0_2.length : Int), 0), (a0_0_0, a0_0_1, a0_0_2, a0_0_3, a0_0_4, a0_0_5, a0_0_6), a0_1, a0_2, a0_3)) fun v1 =>
    match v1 with
    | .inl x2 =>
      cond (decide (x2.2.2.1 < 0))
        (some (1))
        (cond (decide (x2.2.2.1 > (↑(List.length x2.2.2.2.1) : Int)))
          (some (1))
          (some (0)))
    | .inr x2 =>
      some (x2))
noncomputable def i63 : FI := ⟨ps63, .ty (.i .i64), fun ((a0_0_0, a0_0_1, a0_0_2, a0_0_3, a0_0_4, a0_0_5, a0_0_6), a0_1, a0_2, a0_3) => g63 a0_0_0 a0_0_1 a0_0_2 a0_0_3 a0_0_4 a0_0_5 a0_0_6 a0_1 a0_2 a0_3⟩
theorem s63_0 : st63_0 = stepEval T Y env63 an lv63 (finO T true ps63 (.ty (.i .i64)) Tryz.f63.results.toList) (loopAt c63 0) ns63_0 ex63_0 := by kernel_rfl
theorem e63 : (fun a => i63.G a) = fnEval T Y env63 an i63.ps i63.rs true Tryz.f63.results.toList lv63 c63 := by kernel_rfl
theorem lo63 : loopsOf c63 = [loopAt c63 0] := by kernel_rfl
theorem ll63 : LoopsOk T Y env63 an lv63 (finO T true ps63 (.ty (.i .i64)) Tryz.f63.results.toList) c63 := loopsOk_of (by rw [lo63]; exact ⟨loop1 (li := l63_0) (by kernel_rfl) (by kernel_rfl) s63_0, trivial⟩)
theorem k63 : FnOk Tryz.prog 63 i63 :=
  fn_ok (T := T) (Y := Y) (an := an) (env := env63) (fr := true) (lenv := lv63) mixed tok.1 tok.2 (envNil) (fn := Tryz.f63) (c := c63) (by kernel_rfl) (by kernel_rfl) (by kernel_rfl) ll63 (fun a => congrFun e63 a)
/-! ### broker/replica.termAt -/
noncomputable def c58 : Code := Tryz.f58.body.getD .skip
noncomputable def env58 : Env := mkEnv []
abbrev ps58 : List PSh := [.d (.sl (.st (.pr (.i .i64) .s))), .d (.i .i64)]
abbrev D58 : Type := pairD (.ty (.i .i64)) (osOf ps58)
noncomputable def lv58 : Nat → Option (LI D58) := fun _ => none
noncomputable def g58 (a0 : List (Int × List UInt8)) (a1 : Int) : Option (Int) :=
  cond (a1 == 0)
    (some (0))
    (cond (decide (0 ≤ IntKind.i64.wrap (a1 - 1)) && decide (IntKind.i64.wrap (a1 - 1) < (↑a0.length : Int)))
      (some ((a0.getD (IntKind.i64.wrap (a1 - 1)).toNat (0, [])).1))
      (none))
noncomputable def i58 : FI := ⟨ps58, .ty (.i .i64), fun (a0, a1) => g58 a0 a1⟩
theorem e58 : (fun a => i58.G a) = fnEval T Y env58 an i58.ps i58.rs true Tryz.f58.results.toList lv58 c58 := by kernel_rfl
theorem lo58 : loopsOf c58 = [] := by kernel_rfl
theorem ll58 : LoopsOk T Y env58 an lv58 (finO T true ps58 (.ty (.i .i64)) Tryz.f58.results.toList) c58 := loopsOk_of (by rw [lo58]; exact trivial)
theorem k58 : FnOk Tryz.prog 58 i58 :=
  fn_ok (T := T) (Y := Y) (an := an) (env := env58) (fr := true) (lenv := lv58) mixed tok.1 tok.2 (envNil) (fn := Tryz.f58) (c := c58) (by kernel_rfl) (by kernel_rfl) (by kernel_rfl) ll58 (fun a => congrFun e58 a)
/-! ### broker/replica.lastTerm -/
noncomputable def c34 : Code := Tryz.f34.body.getD .skip
noncomputable def env34 : Env := mkEnv [(58, i58)]
abbrev ps34 : List PSh := [.d (.sl (.st (.pr (.i .i64) .s)))]
abbrev D34 : Type := pairD (.ty (.i .i64)) (osOf ps34)
noncomputable def lv34 : Nat → Option (LI D34) := fun _ => none
noncomputable def g34 (a0 : List (Int × List UInt8)) : Option (Int) :=
  Option.bind (g58 a0 (↑a0.length : Int)) fun v1 =>
  some (v1)
noncomputable def i34 : FI := ⟨ps34, .ty (.i .i64), fun a0 => g34 a0⟩
theorem e34 : (fun a => i34.G a) = fnEval T Y env34 an i34.ps i34.rs true Tryz.f34.results.toList lv34 c34 := by kernel_rfl
theorem lo34 : loopsOf c34 = [] := by kernel_rfl
theorem ll34 : LoopsOk T Y env34 an lv34 (finO T true ps34 (.ty (.i .i64)) Tryz.f34.results.toList) c34 := loopsOk_of (by rw [lo34]; exact trivial)
theorem k34 : FnOk Tryz.prog 34 i34 :=
  fn_ok (T := T) (Y := Y) (an := an) (env := env34) (fr := true) (lenv := lv34) mixed tok.1 tok.2 (envCons k58 (envNil)) (fn := Tryz.f34) (c := c34) (by kernel_rfl) (by kernel_rfl) (by kernel_rfl) ll34 (fun a => congrFun e34 a)
/-! ### broker/replica.commit$1 -/
noncomputable def c70 : Code := Tryz.f70.body.getD .skip
noncomputable def env70 : Env := mkEnv []
abbrev ps70 : List PSh := [.d (.i .i64), .p QS1]
abbrev D70 : Type := pairD (.ty (.i .i64)) (osOf ps70)
def ns70_0 : NS := { slots := [(0, .ty (.i .i64)), (4, .ty (.i .i64)), (8, .ty (.sl (.i .i64))), (9, .ty (.i .i64)), (10, .ty (.i .i64))], roots := [] }
def ex70_0 : List (Nat × NS) := [(0, { slots := [(4, .ty (.i .i64))], roots := [] })]
noncomputable def st70_0 (ih : ((Int × Int × List Int × Int × Int) × (Unit)) → Option (((Int) × (Unit)) ⊕ Int)) : ((Int × Int × List Int × Int × Int) × (Unit)) → Option (((Int) × (Unit)) ⊕ Int) := fun ((t0, t4, t8, t9, t10), ()) =>
  cond (decide (t10 < t9))
    (cond (decide (0 ≤ t10) && decide (t10 < (↑t8.length : Int)))
      (cond (decide (t8.getD t10.toNat 0 ≥ t0))
        (ih ((t0, IntKind.i64.wrap (t4 + 1), t8, t9, IntKind.i64.wrap (t10 + 1)), ()))
        (ih ((t0, t4, t8, t9, IntKind.i64.wrap (t10 + 1)), ())))
      (none))
    (some (Sum.inl (t4, ())))
noncomputable def h70_0 : ((Int × Int × List Int × Int × Int) × (Unit)) → Option (((Int) × (Unit)) ⊕ Int) := loopN st70_0 fuel
noncomputable def l70_0 : LI D70 := ⟨ns70_0, ex70_0, h70_0⟩
noncomputable def lv70 : Nat → Option (LI D70) := fun q => if q = 3 then some l70_0 else (fun _ => none) q
noncomputable def g70 (a0 : Int) (a1_0_0 : Int) (a1_0_1 : Int) (a1_0_2 : Int) (a1_0_3 : Int) (a1_0_4 : Int) (a1_0_5 : Int) (a1_0_6 : List Int) (a1_1 : Int) (a1_2 : List (Int × List UInt8)) (a1_3 : List Int) : Option (Int) :=
  Option.bind (h70_0 ((a0, 0, a1_3, (↑a1_3.length : Int), 0), ())) fun v1 =>
  match v1 with
  | .inl x2 =>
    some (x2.1)
  | .inr x2 =>
    some (x2)
noncomputable def i70 : FI := ⟨ps70, .ty (.i .i64), fun (a0, ((a1_0_0, a1_0_1, a1_0_2, a1_0_3, a1_0_4, a1_0_5, a1_0_6), a1_1, a1_2, a1_3)) => g70 a0 a1_0_0 a1_0_1 a1_0_2 a1_0_3 a1_0_4 a1_0_5 a1_0_6 a1_1 a1_2 a1_3⟩
theorem s70_0 : st70_0 = stepEval T Y env70 an lv70 (finO T true ps70 (.ty (.i .i64)) Tryz.f70.results.toList) (loopAt c70 0) ns70_0 ex70_0 := by kernel_rfl
theorem e70 : (fun a => i70.G a) = fnEval T Y env70 an i70.ps i70.rs true Tryz.f70.results.toList lv70 c70 := by kernel_rfl
theorem lo70 : loopsOf c70 = [loopAt c70 0] := by kernel_rfl
theorem ll70 : LoopsOk T Y env70 an lv70 (finO T true ps70 (.ty (.i .i64)) Tryz.f70.results.toList) c70 := loopsOk_of (by rw [lo70]; exact ⟨loop1 (li := l70_0) (by kernel_rfl) (by kernel_rfl) s70_0, trivial⟩)
theorem k70 : FnOk Tryz.prog 70 i70 :=
  fn_ok (T := T) (Y := Y) (an := an) (env := env70) (fr := true) (lenv := lv70) mixed tok.1 tok.2 (envNil) (fn := Tryz.f70) (c := c70) (by kernel_rfl) (by kernel_rfl) (by kernel_rfl) ll70 (fun a => congrFun e70 a)
/-! ### broker/replica.commit -/
noncomputable def c39 : Code := Tryz.f39.body.getD .skip
noncomputable def env39 : Env := mkEnv [(70, i70), (58, i58), (71, i71)]
abbrev ps39 : List PSh := [.d QS1]
abbrev D39 : Type := pairD (.ty QS1) (osOf ps39)
def ns39_0 : NS := { slots := [(1, .pt 1 []), (2, .pt 2 []), (3, .fn 70 [1]), (4, .ty (.i .i64))], roots := [(1, .ty QS1), (2, .ty QS1)] }
def ex39_0 : List (Nat × NS) := [(0, { slots := [(1, .pt 1 []), (2, .pt 2 [])], roots := [(2, .ty QS1), (1, .ty QS1)] })]
noncomputable def st39_0 (ih : ((Int) × (((Int × Int × Int × Int × Int × Int × List Int) × Int × List (Int × List UInt8) × List Int) × (Int × Int × Int × Int × Int × Int × List Int) × Int × List (Int × List UInt8) × List Int)) → Option (((Unit) × (((Int × Int × Int × Int × Int × Int × List Int) × Int × List (Int × List UInt8) × List Int) × (Int × Int × Int × Int × Int × Int × List Int) × Int × List (Int × List UInt8) × List Int)) ⊕ (((Int × Int × Int × Int × Int × Int × List Int) × Int × List (Int × List UInt8) × List Int)))) : ((Int) × (((Int × Int × Int × Int × Int × Int × List Int) × Int × List (Int × List UInt8) × List Int) × (Int × Int × Int × Int × Int × Int × List Int) × Int × List (Int × List UInt8) × List Int)) → Option (((Unit) × (((Int × Int × Int × Int × Int × Int × List Int) × Int × List (Int × List UInt8) × List Int) × (Int × Int × Int × Int × Int × Int × List Int) × Int × List (Int × List UInt8) × List Int)) ⊕ (((Int × Int × Int × Int × Int × Int × List Int) × Int × List (Int × List UInt8) × List Int))) := fun (t4, (((r1_0_0, r1_0_1, r1_0_2, r1_0_3, r1_0_4, r1_0_5, r1_0_6), r1_1, r1_2, r1_3), ((r2_0_0, r2_0_1, r2_0_2, r2_0_3, r2_0_4, r2_0_5, r2_0_6), r2_1, r2_2, r2_3))) =>
  cond (decide (t4 > r1_1))
    (Option.bind (g58 r1_2 t4) fun v1 =>
    cond (v1 == r1_0_2)
      (Option.bind (g70 t4 r1_0_0 r1_0_1 r1_0_2 r1_0_3 r1_0_4 r1_0_5 r1_0_6 r1_1 r1_2 r1_3) fun v2 =>
      Option.bind (g71 v2 r1_0_1) fun v3 =>
      cond (v3)
        (some (Sum.inl ((), ((r2_0_0, r2_0_1, r2_0_2, r2_0_3, r2_0_4, r2_0_5, r2_0_6), r2_1, r2_2, r2_3), (r1_0_0, r1_0_1, r1_0_2, r1_0_3, r1_0_4, r1_0_5, r1_0_6), t4, r1_2, r1_3)))
        (ih (IntKind.i64.wrap (t4 - 1), ((r1_0_0, r1_0_1, r1_0_2, r1_0_3, r1_0_4, r1_0_5, r1_0_6), r1_1, r1_2, r1_3), (r2_0_0, r2_0_1, r2_0_2, r2_0_3, r2_0_4, r2_0_5, r2_0_6), r2_1, r2_2, r2_3)))
      (ih (IntKind.i64.wrap (t4 - 1), ((r1_0_0, r1_0_1, r1_0_2, r1_0_3, r1_0_4, r1_0_5, r1_0_6), r1_1, r1_2, r1_3), (r2_0_0, r2_0_1, r2_0_2, r2_0_3, r2_0_4, r2_0_5, r2_0_6), r2_1, r2_2, r2_3)))
    (some (Sum.inl ((), ((r2_0_0, r2_0_1, r2_0_2, r2_0_3, r2_0_4, r2_0_5, r2_0_6), r2_1, r2_2, r2_3), (r1_0_0, r1_0_1, r1_0_2, r1_0_3, r1_0_4, r1_0_5, r1_0_6), r1_1, r1_2, r1_3)))
noncomputable def h39_0 : ((Int) × (((Int × Int × Int × Int × Int × Int × List Int) × Int × List (Int × List UInt8) × List Int) × (Int × Int × Int × Int × Int × Int × List Int) × Int × List (Int × List UInt8) × List Int)) → Option (((Unit) × (((Int × Int × Int × Int × Int × Int × List Int) × Int × List (Int × List UInt8) × List Int) × (Int × Int × Int × Int × Int × Int × List Int) × Int × List (Int × List UInt8) × List Int)) ⊕ (((Int × Int × Int × Int × Int × Int × List Int) × Int × List (Int × List UInt8) × List Int))) := loopN st39_0 fuel
noncomputable def l39_0 : LI D39 := ⟨ns39_0, ex39_0, h39_0⟩
noncomputable def lv39 : Nat → Option (LI D39) := fun q => if q = 3 then some l39_0 else (fun _ => none) q
noncomputable def g39 (a0_0_0 : Int) (a0_0_1 : Int) (a0_0_2 : Int) (a0_0_3 : Int) (a0_0_4 : Int) (a0_0_5 : Int) (a0_0_6 : List Int) (a0_1 : Int) (a0_2 : List (Int × List UInt8)) (a0_3 : List Int) : Option ((Int × Int × Int × Int × Int × Int × List Int) × Int × List (Int × List UInt8) × List Int) :=
  Option.bind (h39_0 ((↑a0_2.length : Int), ((a0_0_0, a0_0_1, a0_0_2, a0_0_3, a0_0_4, a0_0_5, a0_0_6), a0_1, a0_2, a0_3), (0, 0, 0, 0, 0, 0, []), 0, [], [])) fun v1 =>
  match v1 with
  | .inl x2 =>
    some (x2.2.2)
  | .inr x2 =>
    some (x2)
noncomputable def i39 : FI := ⟨ps39, .ty QS1, fun ((a0_0_0, a0_0_1, a0_0_2, a0_0_3, a0_0_4, a0_0_5, a0_0_6), a0_1, a0_2, a0_3) => g39 a0_0_0 a0_0_1 a0_0_2 a0_0_3 a0_0_4 a0_0_5 a0_0_6 a0_1 a0_2 a0_3⟩
theorem s39_0 : st39_0 = stepEval T Y env39 an lv39 (finO T true ps39 (.ty QS1) Tryz.f39.results.toList) (loopAt c39 0) ns39_0 ex39_0 := by kernel_rfl
theorem e39 : (fun a => i39.G a) = fnEval T Y env39 an i39.ps i39.rs true Tryz.f39.results.toList lv39 c39 := by kernel_rfl
theorem lo39 : loopsOf c39 = [loopAt c39 0] := by kernel_rfl
theorem ll39 : LoopsOk T Y env39 an lv39 (finO T true ps39 (.ty QS1) Tryz.f39.results.toList) c39 := loopsOk_of (by rw [lo39]; exact ⟨loop1 (li := l39_0) (by kernel_rfl) (by kernel_rfl) s39_0, trivial⟩)
theorem k39 : FnOk Tryz.prog 39 i39 :=
  fn_ok (T := T) (Y := Y) (an := an) (env := env39) (fr := true) (lenv := lv39) mixed tok.1 tok.2 (envCons k70 (envCons k58 (envCons k71 (envNil)))) (fn := Tryz.f39) (c := c39) (by kernel_rfl) (by kernel_rfl) (by kernel_rfl) ll39 (fun a => congrFun e39 a)
/-! ### slices.Equal[[]string,string] -/
noncomputable def c20 : Code := Tryz.f20.body.getD .skip
noncomputable def env20 : Env := mkEnv []
abbrev ps20 : List PSh := [.d (.sl .s), .d (.sl .s)]
abbrev D20 : Type := pairD (.ty .b) (osOf ps20)
def ns20_0 : NS := { slots := [(0, .ty (.sl .s)), (1, .ty (.sl .s)), (12, .ty (.i .i64)), (13, .ty (.i .i64))], roots := [] }
def ex20_0 : List (Nat × NS) := [(0, { slots := [], roots := [] })]
noncomputable def st20_0 (ih : ((List (List UInt8) × List (List UInt8) × Int × Int) × (Unit)) → Option (((Unit) × (Unit)) ⊕ Bool)) : ((List (List UInt8) × List (List UInt8) × Int × Int) × (Unit)) → Option (((Unit) × (Unit)) ⊕ Bool) := fun ((t0, t1, t12, t13), ()) =>
  cond (decide (t13 < t12))
    (cond (decide (0 ≤ t13) && decide (t13 < (↑t0.length : Int)))
      (cond (decide (0 ≤ t13) && decide (t13 < (↑t1.length : Int)))
        (cond (!t0.getD t13.toNat [] == t1.getD t13.toNat [])
          (some (Sum.inr false))
          (ih ((t0, t1, t12, IntKind.i64.wrap (t13 + 1)), ())))
        (none))
      (none))
    (some (Sum.inl ((), ())))
noncomputable def h20_0 : ((List (List UInt8) × List (List UInt8) × Int × Int) × (Unit)) → Option (((Unit) × (Unit)) ⊕ Bool) := loopN st20_0 fuel
noncomputable def l20_0 : LI D20 := ⟨ns20_0, ex20_0, h20_0⟩
noncomputable def lv20 : Nat → Option (LI D20) := fun q => if q = 4 then some l20_0 else (fun _ => none) q
noncomputable def g20 (a0 : List (List UInt8)) (a1 : List (List UInt8)) : Option (Bool) :=
  cond ((↑a0.length : Int) != (↑a1.length : Int))
    (some (false))
    (Option.bind (h20_0 ((a0, a1, (↑a0.length : Int), 0), ())) fun v1 =>
    match v1 with
    | .inl x2 =>
      some (true)
    | .inr x2 =>
      some (x2))
noncomputable def i20 : FI := ⟨ps20, .ty .b, fun (a0, a1) => g20 a0 a1⟩
theorem s20_0 : st20_0 = stepEval T Y env20 an lv20 (finO T true ps20 (.ty .b) Tryz.f20.results.toList) (loopAt c20 0) ns20_0 ex20_0 := by kernel_rfl
theorem e20 : (fun a => i20.G a) = fnEval T Y env20 an i20.ps i20.rs true Tryz.f20.results.toList lv20 c20 := by kernel_rfl
theorem lo20 : loopsOf c20 = [loopAt c20 0] := by kernel_rfl
theorem ll20 : LoopsOk T Y env20 an lv20 (finO T true ps20 (.ty .b) Tryz.f20.results.toList) c20 := loopsOk_of (by rw [lo20]; exact ⟨loop1 (li := l20_0) (by kernel_rfl) (by kernel_rfl) s20_0, trivial⟩)
theorem k20 : FnOk Tryz.prog 20 i20 :=
  fn_ok (T := T) (Y := Y) (an := an) (env := env20) (fr := true) (lenv := lv20) mixed tok.1 tok.2 (envNil) (fn := Tryz.f20) (c := c20) (by kernel_rfl) (by kernel_rfl) (by kernel_rfl) ll20 (fun a => congrFun e20 a)
/-! ### slices.Equal[[]broker/api.Command,broker/api.Command] -/
noncomputable def c42 : Code := Tryz.f42.body.getD .skip
noncomputable def env42 : Env := mkEnv []
abbrev ps42 : List PSh := [.d (.sl (.st (.pr (.i .i64) .s))), .d (.sl (.st (.pr (.i .i64) .s)))]
abbrev D42 : Type := pairD (.ty .b) (osOf ps42)
def ns42_0 : NS := { slots := [(0, .ty (.sl (.st (.pr (.i .i64) .s)))), (1, .ty (.sl (.st (.pr (.i .i64) .s)))), (12, .ty (.i .i64)), (13, .ty (.i .i64))], roots := [] }
def ex42_0 : List (Nat × NS) := [(0, { slots := [], roots := [] })]
noncomputable def st42_0 (ih : (((List (Int × List UInt8)) × (List (Int × List UInt8)) × Int × Int) × (Unit)) → Option (((Unit) × (Unit)) ⊕ Bool)) : (((List (Int × List UInt8)) × (List (Int × List UInt8)) × Int × Int) × (Unit)) → Option (((Unit) × (Unit)) ⊕ Bool) := fun ((t0, t1, t12, t13), ()) =>
  cond (decide (t13 < t12))
    (cond (decide (0 ≤ t13) && decide (t13 < (↑t0.length : Int)))
      (cond (decide (0 ≤ t13) && decide (t13 < (↑t1.length : Int)))
        (cond (!((t0.getD t13.toNat (0, [])).1 == (t1.getD t13.toNat (0, [])).1 && ((t0.getD t13.toNat (0, [])).2 == (t1.getD t13.toNat (0, [])).2 && true)))
          (some (Sum.inr false))
          (ih ((t0, t1, t12, IntKind.i64.wrap (t13 + 1)), ())))
        (none))
      (none))
    (some (Sum.inl ((), ())))
noncomputable def h42_0 : (((List (Int × List UInt8)) × (List (Int × List UInt8)) × Int × Int) × (Unit)) → Option (((Unit) × (Unit)) ⊕ Bool) := loopN st42_0 fuel
noncomputable def l42_0 : LI D42 := ⟨ns42_0, ex42_0, h42_0⟩
noncomputable def lv42 : Nat → Option (LI D42) := fun q => if q = 4 then some l42_0 else (fun _ => none) q
noncomputable def g42 (a0 : List (Int × List UInt8)) (a1 : List (Int × List UInt8)) : Option (Bool) :=
  cond ((↑a0.length : Int) != (↑a1.length : Int))
    (some (false))
    (Option.bind (h42_0 ((a0, a1, (↑a0.length : Int), 0), ())) fun v1 =>
    match v1 with
    | .inl x2 =>
      some (true)
    | .inr x2 =>
      some (x2))
noncomputable def i42 : FI := ⟨ps42, .ty .b, fun (a0, a1) => g42 a0 a1⟩
theorem s42_0 : st42_0 = stepEval T Y env42 an lv42 (finO T true ps42 (.ty .b) Tryz.f42.results.toList) (loopAt c42 0) ns42_0 ex42_0 := by kernel_rfl
theorem e42 : (fun a => i42.G a) = fnEval T Y env42 an i42.ps i42.rs true Tryz.f42.results.toList lv42 c42 := by kernel_rfl
theorem lo42 : loopsOf c42 = [loopAt c42 0] := by kernel_rfl
theorem ll42 : LoopsOk T Y env42 an lv42 (finO T true ps42 (.ty .b) Tryz.f42.results.toList) c42 := loopsOk_of (by rw [lo42]; exact ⟨loop1 (li := l42_0) (by kernel_rfl) (by kernel_rfl) s42_0, trivial⟩)
theorem k42 : FnOk Tryz.prog 42 i42 :=
  fn_ok (T := T) (Y := Y) (an := an) (env := env42) (fr := true) (lenv := lv42) mixed tok.1 tok.2 (envNil) (fn := Tryz.f42) (c := c42) (by kernel_rfl) (by kernel_rfl) (by kernel_rfl) ll42 (fun a => congrFun e42 a)
end Go.Proofs.YtfadalgikdffeaaGreat.EVT
