/- What functions compute, as printed (U, part A). -/
import Derived.Test.YtfadalgikdffeaaTv13
import Derived.Test.YtfadalgikdffeaaUT
set_option linter.unusedVariables false
set_option maxRecDepth 100000
set_option maxHeartbeats 0
namespace Go.Proofs.Ytfadalgikdffeaa.EVT
open Go Go.EV
/-! ### broker/member.Quorum -/
noncomputable def c62 : Code := Try.f62.body.getD .skip
noncomputable def env62 : Env := mkEnv []
abbrev ps62 : List PSh := [.d (.i .i64), .d (.i .i64)]
abbrev D62 : Type := pairD (.ty .b) (osOf ps62)
noncomputable def lv62 : Nat → Option (LI D62) := fun _ => none
noncomputable def g62 (a0 : Int) (a1 : Int) : Option (Bool) :=
  cond (decide (a1 ≥ 1))
    (some (decide (a0 > IntKind.i64.wrap (a1.tdiv 2))))
    (some (false))
noncomputable def i62 : FI := ⟨ps62, .ty .b, fun (a0, a1) => g62 a0 a1⟩
theorem e62 : (fun a => i62.G a) = fnEval T Y env62 an i62.ps i62.rs true Try.f62.results.toList lv62 c62 := by kernel_rfl
theorem lo62 : loopsOf c62 = [] := by kernel_rfl
theorem ll62 : LoopsOk T Y env62 an lv62 (finO T true ps62 (.ty .b) Try.f62.results.toList) c62 := loopsOk_of (by rw [lo62]; exact trivial)
theorem k62 : FnOk Try.prog 62 i62 :=
  fn_ok (T := T) (Y := Y) (an := an) (env := env62) (fr := true) (lenv := lv62) mixed tok.1 tok.2 (envNil) (fn := Try.f62) (c := c62) (by kernel_rfl) (by kernel_rfl) (by kernel_rfl) ll62 (fun a => congrFun e62 a)
/-! ### broker/brokerref39.Quorum -/
noncomputable def c66 : Code := Try.f66.body.getD .skip
noncomputable def env66 : Env := mkEnv []
abbrev ps66 : List PSh := [.d (.i .i64), .d (.i .i64)]
abbrev D66 : Type := pairD (.ty .b) (osOf ps66)
noncomputable def lv66 : Nat → Option (LI D66) := fun _ => none
noncomputable def g66 (a0 : Int) (a1 : Int) : Option (Bool) :=
  cond (decide (a1 ≥ 1))
    (some (decide (a0 > IntKind.i64.wrap (a1.tdiv 2))))
    (some (false))
noncomputable def i66 : FI := ⟨ps66, .ty .b, fun (a0, a1) => g66 a0 a1⟩
theorem e66 : (fun a => i66.G a) = fnEval T Y env66 an i66.ps i66.rs true Try.f66.results.toList lv66 c66 := by kernel_rfl
theorem lo66 : loopsOf c66 = [] := by kernel_rfl
theorem ll66 : LoopsOk T Y env66 an lv66 (finO T true ps66 (.ty .b) Try.f66.results.toList) c66 := loopsOk_of (by rw [lo66]; exact trivial)
theorem k66 : FnOk Try.prog 66 i66 :=
  fn_ok (T := T) (Y := Y) (an := an) (env := env66) (fr := true) (lenv := lv66) mixed tok.1 tok.2 (envNil) (fn := Try.f66) (c := c66) (by kernel_rfl) (by kernel_rfl) (by kernel_rfl) ll66 (fun a => congrFun e66 a)
/-! ### broker/brokerref40.in -/
noncomputable def c53 : Code := Try.f53.body.getD .skip
noncomputable def env53 : Env := mkEnv []
abbrev ps53 : List PSh := [.d (.i .i64), .d (.i .i64), .d (.i .i64)]
abbrev D53 : Type := pairD (.ty .b) (osOf ps53)
noncomputable def lv53 : Nat → Option (LI D53) := fun _ => none
noncomputable def g53 (a0 : Int) (a1 : Int) (a2 : Int) : Option (Bool) :=
  cond (decide (a1 ≤ a0))
    (some (decide (a0 ≤ a2)))
    (some (false))
noncomputable def i53 : FI := ⟨ps53, .ty .b, fun (a0, a1, a2) => g53 a0 a1 a2⟩
theorem e53 : (fun a => i53.G a) = fnEval T Y env53 an i53.ps i53.rs true Try.f53.results.toList lv53 c53 := by kernel_rfl
theorem lo53 : loopsOf c53 = [] := by kernel_rfl
theorem ll53 : LoopsOk T Y env53 an lv53 (finO T true ps53 (.ty .b) Try.f53.results.toList) c53 := loopsOk_of (by rw [lo53]; exact trivial)
theorem k53 : FnOk Try.prog 53 i53 :=
  fn_ok (T := T) (Y := Y) (an := an) (env := env53) (fr := true) (lenv := lv53) mixed tok.1 tok.2 (envNil) (fn := Try.f53) (c := c53) (by kernel_rfl) (by kernel_rfl) (by kernel_rfl) ll53 (fun a => congrFun e53 a)
/-! ### slices.Index[[]int,int] -/
noncomputable def c67 : Code := Try.f67.body.getD .skip
noncomputable def env67 : Env := mkEnv []
abbrev ps67 : List PSh := [.d (.sl (.i .i64)), .d (.i .i64)]
abbrev D67 : Type := pairD (.ty (.i .i64)) (osOf ps67)
def ns67_0 : NS := { slots := [(0, .ty (.sl (.i .i64))), (1, .ty (.i .i64)), (7, .ty (.i .i64)), (8, .ty (.i .i64))], roots := [] }
def ex67_0 : List (Nat × NS) := [(0, { slots := [], roots := [] })]
noncomputable def st67_0 (ih : ((List Int × Int × Int × Int) × (Unit)) → Option (((Unit) × (Unit)) ⊕ Int)) : ((List Int × Int × Int × Int) × (Unit)) → Option (((Unit) × (Unit)) ⊕ Int) := fun ((t0, t1, t7, t8), ()) =>
  cond (decide (t8 < t7))
    (cond (decide (0 ≤ t8) && decide (t8 < (↑t0.length : Int)))
      (cond (t1 == t0.getD t8.toNat 0)
        (some (Sum.inr t8))
        (ih ((t0, t1, t7, IntKind.i64.wrap (t8 + 1)), ())))
      (none))
    (some (Sum.inl ((), ())))
noncomputable def h67_0 : ((List Int × Int × Int × Int) × (Unit)) → Option (((Unit) × (Unit)) ⊕ Int) := loopN st67_0 fuel
noncomputable def l67_0 : LI D67 := ⟨ns67_0, ex67_0, h67_0⟩
noncomputable def lv67 : Nat → Option (LI D67) := fun q => if q = 2 then some l67_0 else (fun _ => none) q
noncomputable def g67 (a0 : List Int) (a1 : Int) : Option (Int) :=
  Option.bind (h67_0 ((a0, a1, (↑a0.length : Int), 0), ())) fun v1 =>
  match v1 with
  | .inl x2 =>
    some (-1)
  | .inr x2 =>
    some (x2)
noncomputable def i67 : FI := ⟨ps67, .ty (.i .i64), fun (a0, a1) => g67 a0 a1⟩
theorem s67_0 : st67_0 = stepEval T Y env67 an lv67 (finO T true ps67 (.ty (.i .i64)) Try.f67.results.toList) (loopAt c67 0) ns67_0 ex67_0 := by kernel_rfl
theorem e67 : (fun a => i67.G a) = fnEval T Y env67 an i67.ps i67.rs true Try.f67.results.toList lv67 c67 := by kernel_rfl
theorem lo67 : loopsOf c67 = [loopAt c67 0] := by kernel_rfl
theorem ll67 : LoopsOk T Y env67 an lv67 (finO T true ps67 (.ty (.i .i64)) Try.f67.results.toList) c67 := loopsOk_of (by rw [lo67]; exact ⟨loop1 (li := l67_0) (by kernel_rfl) (by kernel_rfl) s67_0, trivial⟩)
theorem k67 : FnOk Try.prog 67 i67 :=
  fn_ok (T := T) (Y := Y) (an := an) (env := env67) (fr := true) (lenv := lv67) mixed tok.1 tok.2 (envNil) (fn := Try.f67) (c := c67) (by kernel_rfl) (by kernel_rfl) (by kernel_rfl) ll67 (fun a => congrFun e67 a)
/-! ### slices.Contains[[]int,int] -/
noncomputable def c65 : Code := Try.f65.body.getD .skip
noncomputable def env65 : Env := mkEnv [(67, i67)]
abbrev ps65 : List PSh := [.d (.sl (.i .i64)), .d (.i .i64)]
abbrev D65 : Type := pairD (.ty .b) (osOf ps65)
noncomputable def lv65 : Nat → Option (LI D65) := fun _ => none
noncomputable def g65 (a0 : List Int) (a1 : Int) : Option (Bool) :=
  Option.bind (g67 a0 a1) fun v1 =>
  some (decide (v1 ≥ 0))
noncomputable def i65 : FI := ⟨ps65, .ty .b, fun (a0, a1) => g65 a0 a1⟩
theorem e65 : (fun a => i65.G a) = fnEval T Y env65 an i65.ps i65.rs true Try.f65.results.toList lv65 c65 := by kernel_rfl
theorem lo65 : loopsOf c65 = [] := by kernel_rfl
theorem ll65 : LoopsOk T Y env65 an lv65 (finO T true ps65 (.ty .b) Try.f65.results.toList) c65 := loopsOk_of (by rw [lo65]; exact trivial)
theorem k65 : FnOk Try.prog 65 i65 :=
  fn_ok (T := T) (Y := Y) (an := an) (env := env65) (fr := true) (lenv := lv65) mixed tok.1 tok.2 (envCons k67 (envNil)) (fn := Try.f65) (c := c65) (by kernel_rfl) (by kernel_rfl) (by kernel_rfl) ll65 (fun a => congrFun e65 a)
/-! ### broker/vote.New -/
noncomputable def c29 : Code := Try.f29.body.getD .skip
noncomputable def env29 : Env := mkEnv []
abbrev ps29 : List PSh := [.d (.i .i64), .d (.i .i64)]
abbrev D29 : Type := pairD (.tup (.pr (.ty (.st (.pr (.i .i64) (.pr (.i .i64) (.pr (.i .i64) (.pr (.i .i64) (.pr (.i .i64) (.pr (.i .i64) (.sl (.i .i64)))))))))) (.ty (.i .i64)))) (osOf ps29)
noncomputable def lv29 : Nat → Option (LI D29) := fun _ => none
noncomputable def g29 (a0 : Int) (a1 : Int) : Option ((Int × Int × Int × Int × Int × Int × List Int) × Int) :=
  cond (decide (a1 < 1))
    (some (((0, 0, 0, 0, 0, 0, []), 1)))
    (cond (decide (a1 > 7))
      (some (((0, 0, 0, 0, 0, 0, []), 1)))
      (cond (decide (a0 < 0))
        (some (((0, 0, 0, 0, 0, 0, []), 1)))
        (cond (decide (a0 ≥ a1))
          (some (((0, 0, 0, 0, 0, 0, []), 1)))
          (some (((a0, a1, 0, 0, -1, -1, []), 0))))))
noncomputable def i29 : FI := ⟨ps29, .tup (.pr (.ty (.st (.pr (.i .i64) (.pr (.i .i64) (.pr (.i .i64) (.pr (.i .i64) (.pr (.i .i64) (.pr (.i .i64) (.sl (.i .i64)))))))))) (.ty (.i .i64))), fun (a0, a1) => g29 a0 a1⟩
theorem e29 : (fun a => i29.G a) = fnEval T Y env29 an i29.ps i29.rs true Try.f29.results.toList lv29 c29 := by kernel_rfl
theorem lo29 : loopsOf c29 = [] := by kernel_rfl
theorem ll29 : LoopsOk T Y env29 an lv29 (finO T true ps29 (.tup (.pr (.ty (.st (.pr (.i .i64) (.pr (.i .i64) (.pr (.i .i64) (.pr (.i .i64) (.pr (.i .i64) (.pr (.i .i64) (.sl (.i .i64)))))))))) (.ty (.i .i64)))) Try.f29.results.toList) c29 := loopsOk_of (by rw [lo29]; exact trivial)
theorem k29 : FnOk Try.prog 29 i29 :=
  fn_ok (T := T) (Y := Y) (an := an) (env := env29) (fr := true) (lenv := lv29) mixed tok.1 tok.2 (envNil) (fn := Try.f29) (c := c29) (by kernel_rfl) (by kernel_rfl) (by kernel_rfl) ll29 (fun a => congrFun e29 a)
/-! ### broker/brokerref40.New -/
noncomputable def c30 : Code := Try.f30.body.getD .skip
noncomputable def env30 : Env := mkEnv [(53, i53)]
abbrev ps30 : List PSh := [.d (.i .i64), .d (.i .i64)]
abbrev D30 : Type := pairD (.tup (.pr (.ty (.st (.pr (.i .i64) (.pr (.i .i64) (.pr (.i .i64) (.pr (.i .i64) (.pr (.i .i64) (.pr (.i .i64) (.sl (.i .i64)))))))))) (.ty (.i .i64)))) (osOf ps30)
noncomputable def lv30 : Nat → Option (LI D30) := fun _ => none
noncomputable def g30 (a0 : Int) (a1 : Int) : Option ((Int × Int × Int × Int × Int × Int × List Int) × Int) :=
  Option.bind (g53 a1 1 7) fun v1 =>
  cond (!v1)
    (some (((0, 0, 0, 0, 0, 0, []), 1)))
    (Option.bind (g53 a0 0 (IntKind.i64.wrap (a1 - 1))) fun v2 =>
    cond (!v2)
      (some (((0, 0, 0, 0, 0, 0, []), 1)))
      (some (((a0, a1, 0, 0, -1, -1, []), 0))))
noncomputable def i30 : FI := ⟨ps30, .tup (.pr (.ty (.st (.pr (.i .i64) (.pr (.i .i64) (.pr (.i .i64) (.pr (.i .i64) (.pr (.i .i64) (.pr (.i .i64) (.sl (.i .i64)))))))))) (.ty (.i .i64))), fun (a0, a1) => g30 a0 a1⟩
theorem e30 : (fun a => i30.G a) = fnEval T Y env30 an i30.ps i30.rs true Try.f30.results.toList lv30 c30 := by kernel_rfl
theorem lo30 : loopsOf c30 = [] := by kernel_rfl
theorem ll30 : LoopsOk T Y env30 an lv30 (finO T true ps30 (.tup (.pr (.ty (.st (.pr (.i .i64) (.pr (.i .i64) (.pr (.i .i64) (.pr (.i .i64) (.pr (.i .i64) (.pr (.i .i64) (.sl (.i .i64)))))))))) (.ty (.i .i64)))) Try.f30.results.toList) c30 := loopsOk_of (by rw [lo30]; exact trivial)
theorem k30 : FnOk Try.prog 30 i30 :=
  fn_ok (T := T) (Y := Y) (an := an) (env := env30) (fr := true) (lenv := lv30) mixed tok.1 tok.2 (envCons k53 (envNil)) (fn := Try.f30) (c := c30) (by kernel_rfl) (by kernel_rfl) (by kernel_rfl) ll30 (fun a => congrFun e30 a)
/-! ### slices.Equal[[]int,int] -/
noncomputable def c28 : Code := Try.f28.body.getD .skip
noncomputable def env28 : Env := mkEnv []
abbrev ps28 : List PSh := [.d (.sl (.i .i64)), .d (.sl (.i .i64))]
abbrev D28 : Type := pairD (.ty .b) (osOf ps28)
def ns28_0 : NS := { slots := [(0, .ty (.sl (.i .i64))), (1, .ty (.sl (.i .i64))), (12, .ty (.i .i64)), (13, .ty (.i .i64))], roots := [] }
def ex28_0 : List (Nat × NS) := [(0, { slots := [], roots := [] })]
noncomputable def st28_0 (ih : ((List Int × List Int × Int × Int) × (Unit)) → Option (((Unit) × (Unit)) ⊕ Bool)) : ((List Int × List Int × Int × Int) × (Unit)) → Option (((Unit) × (Unit)) ⊕ Bool) := fun ((t0, t1, t12, t13), ()) =>
  cond (decide (t13 < t12))
    (cond (decide (0 ≤ t13) && decide (t13 < (↑t0.length : Int)))
      (cond (decide (0 ≤ t13) && decide (t13 < (↑t1.length : Int)))
        (cond (t0.getD t13.toNat 0 != t1.getD t13.toNat 0)
          (some (Sum.inr false))
          (ih ((t0, t1, t12, IntKind.i64.wrap (t13 + 1)), ())))
        (none))
      (none))
    (some (Sum.inl ((), ())))
noncomputable def h28_0 : ((List Int × List Int × Int × Int) × (Unit)) → Option (((Unit) × (Unit)) ⊕ Bool) := loopN st28_0 fuel
noncomputable def l28_0 : LI D28 := ⟨ns28_0, ex28_0, h28_0⟩
noncomputable def lv28 : Nat → Option (LI D28) := fun q => if q = 4 then some l28_0 else (fun _ => none) q
noncomputable def g28 (a0 : List Int) (a1 : List Int) : Option (Bool) :=
  cond ((↑a0.length : Int) != (↑a1.length : Int))
    (some (false))
    (Option.bind (h28_0 ((a0, a1, (↑a0.length : Int), 0), ())) fun v1 =>
    match v1 with
    | .inl x2 =>
      some (true)
    | .inr x2 =>
      some (x2))
noncomputable def i28 : FI := ⟨ps28, .ty .b, fun (a0, a1) => g28 a0 a1⟩
theorem s28_0 : st28_0 = stepEval T Y env28 an lv28 (finO T true ps28 (.ty .b) Try.f28.results.toList) (loopAt c28 0) ns28_0 ex28_0 := by kernel_rfl
theorem e28 : (fun a => i28.G a) = fnEval T Y env28 an i28.ps i28.rs true Try.f28.results.toList lv28 c28 := by kernel_rfl
theorem lo28 : loopsOf c28 = [loopAt c28 0] := by kernel_rfl
theorem ll28 : LoopsOk T Y env28 an lv28 (finO T true ps28 (.ty .b) Try.f28.results.toList) c28 := loopsOk_of (by rw [lo28]; exact ⟨loop1 (li := l28_0) (by kernel_rfl) (by kernel_rfl) s28_0, trivial⟩)
theorem k28 : FnOk Try.prog 28 i28 :=
  fn_ok (T := T) (Y := Y) (an := an) (env := env28) (fr := true) (lenv := lv28) mixed tok.1 tok.2 (envNil) (fn := Try.f28) (c := c28) (by kernel_rfl) (by kernel_rfl) (by kernel_rfl) ll28 (fun a => congrFun e28 a)
/-! ### broker/brokerref40.Same -/
noncomputable def c31 : Code := Try.f31.body.getD .skip
noncomputable def env31 : Env := mkEnv [(28, i28)]
abbrev ps31 : List PSh := [.d (.st (.pr (.i .i64) (.pr (.i .i64) (.pr (.i .i64) (.pr (.i .i64) (.pr (.i .i64) (.pr (.i .i64) (.sl (.i .i64))))))))), .d (.st (.pr (.i .i64) (.pr (.i .i64) (.pr (.i .i64) (.pr (.i .i64) (.pr (.i .i64) (.pr (.i .i64) (.sl (.i .i64)))))))))]
abbrev D31 : Type := pairD (.ty .b) (osOf ps31)
noncomputable def lv31 : Nat → Option (LI D31) := fun _ => none
noncomputable def g31 (a0_0 : Int) (a0_1 : Int) (a0_2 : Int) (a0_3 : Int) (a0_4 : Int) (a0_5 : Int) (a0_6 : List Int) (a1_0 : Int) (a1_1 : Int) (a1_2 : Int) (a1_3 : Int) (a1_4 : Int) (a1_5 : Int) (a1_6 : List Int) : Option (Bool) :=
  cond (a0_0 == a1_0)
    (cond (a0_1 == a1_1)
      (cond (a0_2 == a1_2)
        (cond (a0_3 == a1_3)
          (cond (a0_4 == a1_4)
            (cond (a0_5 == a1_5)
              (Option.bind (g28 a0_6 a1_6) fun v1 =>
              some (v1))
              (some (false)))
            (some (false)))
          (some (false)))
        (some (false)))
      (some (false)))
    (some (false))
noncomputable def i31 : FI := ⟨ps31, .ty .b, fun ((a0_0, a0_1, a0_2, a0_3, a0_4, a0_5, a0_6), (a1_0, a1_1, a1_2, a1_3, a1_4, a1_5, a1_6)) => g31 a0_0 a0_1 a0_2 a0_3 a0_4 a0_5 a0_6 a1_0 a1_1 a1_2 a1_3 a1_4 a1_5 a1_6⟩
theorem e31 : (fun a => i31.G a) = fnEval T Y env31 an i31.ps i31.rs true Try.f31.results.toList lv31 c31 := by kernel_rfl
theorem lo31 : loopsOf c31 = [] := by kernel_rfl
theorem ll31 : LoopsOk T Y env31 an lv31 (finO T true ps31 (.ty .b) Try.f31.results.toList) c31 := loopsOk_of (by rw [lo31]; exact trivial)
theorem k31 : FnOk Try.prog 31 i31 :=
  fn_ok (T := T) (Y := Y) (an := an) (env := env31) (fr := true) (lenv := lv31) mixed tok.1 tok.2 (envCons k28 (envNil)) (fn := Try.f31) (c := c31) (by kernel_rfl) (by kernel_rfl) (by kernel_rfl) ll31 (fun a => congrFun e31 a)
/-! ### broker/vote.consistent -/
noncomputable def c54 : Code := Try.f54.body.getD .skip
noncomputable def env54 : Env := mkEnv [(65, i65), (62, i62)]
abbrev ps54 : List PSh := [.d (.st (.pr (.i .i64) (.pr (.i .i64) (.pr (.i .i64) (.pr (.i .i64) (.pr (.i .i64) (.pr (.i .i64) (.sl (.i .i64)))))))))]
abbrev D54 : Type := pairD (.ty .b) (osOf ps54)
noncomputable def lv54 : Nat → Option (LI D54) := fun _ => none
noncomputable def g54 (a0_0 : Int) (a0_1 : Int) (a0_2 : Int) (a0_3 : Int) (a0_4 : Int) (a0_5 : Int) (a0_6 : List Int) : Option (Bool) :=
  cond (a0_2 == 0)
    (cond (a0_3 != 0)
      (some (false))
      (cond (a0_4 != -1)
        (some (false))
        (cond (a0_5 != -1)
          (some (false))
          (cond (a0_3 == 1)
            (cond (a0_4 == a0_0)
              (cond (a0_5 == -1)
                (Option.bind (g65 a0_6 a0_0) fun v1 =>
                cond (v1)
                  (Option.bind (g62 (↑a0_6.length : Int) a0_1) fun v2 =>
                  some (!v2))
                  (some (false)))
                (some (false)))
              (some (false)))
            (cond (a0_3 == 2)
              (cond (a0_4 == a0_0)
                (cond (a0_5 == a0_0)
                  (some ((↑a0_6.length : Int) == 0))
                  (some (false)))
                (some (false)))
              (cond ((↑a0_6.length : Int) == 0)
                (some (a0_5 != a0_0))
                (some (false))))))))
    (cond (a0_3 == 1)
      (cond (a0_4 == a0_0)
        (cond (a0_5 == -1)
          (Option.bind (g65 a0_6 a0_0) fun v3 =>
          cond (v3)
            (Option.bind (g62 (↑a0_6.length : Int) a0_1) fun v4 =>
            some (!v4))
            (some (false)))
          (some (false)))
        (some (false)))
      (cond (a0_3 == 2)
        (cond (a0_4 == a0_0)
          (cond (a0_5 == a0_0)
            (some ((↑a0_6.length : Int) == 0))
            (some (false)))
          (some (false)))
        (cond ((↑a0_6.length : Int) == 0)
          (some (a0_5 != a0_0))
          (some (false)))))
noncomputable def i54 : FI := ⟨ps54, .ty .b, fun (a0_0, a0_1, a0_2, a0_3, a0_4, a0_5, a0_6) => g54 a0_0 a0_1 a0_2 a0_3 a0_4 a0_5 a0_6⟩
theorem e54 : (fun a => i54.G a) = fnEval T Y env54 an i54.ps i54.rs true Try.f54.results.toList lv54 c54 := by kernel_rfl
theorem lo54 : loopsOf c54 = [] := by kernel_rfl
theorem ll54 : LoopsOk T Y env54 an lv54 (finO T true ps54 (.ty .b) Try.f54.results.toList) c54 := loopsOk_of (by rw [lo54]; exact trivial)
theorem k54 : FnOk Try.prog 54 i54 :=
  fn_ok (T := T) (Y := Y) (an := an) (env := env54) (fr := true) (lenv := lv54) mixed tok.1 tok.2 (envCons k65 (envCons k62 (envNil))) (fn := Try.f54) (c := c54) (by kernel_rfl) (by kernel_rfl) (by kernel_rfl) ll54 (fun a => congrFun e54 a)
/-! ### broker/brokerref40.role -/
noncomputable def c55 : Code := Try.f55.body.getD .skip
noncomputable def env55 : Env := mkEnv [(65, i65), (66, i66)]
abbrev ps55 : List PSh := [.d (.st (.pr (.i .i64) (.pr (.i .i64) (.pr (.i .i64) (.pr (.i .i64) (.pr (.i .i64) (.pr (.i .i64) (.sl (.i .i64)))))))))]
abbrev D55 : Type := pairD (.ty .b) (osOf ps55)
noncomputable def lv55 : Nat → Option (LI D55) := fun _ => none
noncomputable def g55 (a0_0 : Int) (a0_1 : Int) (a0_2 : Int) (a0_3 : Int) (a0_4 : Int) (a0_5 : Int) (a0_6 : List Int) : Option (Bool) :=
  cond (a0_2 == 0)
    (cond (a0_3 != 0)
      (some (false))
      (cond (a0_4 != -1)
        (some (false))
        (cond (a0_5 != -1)
          (some (false))
          (cond (a0_3 == 0)
            (cond ((↑a0_6.length : Int) == 0)
              (some (a0_5 != a0_0))
              (some (false)))
            (cond (a0_3 == 1)
              (cond (a0_4 == a0_0)
                (cond (a0_5 == -1)
                  (Option.bind (g65 a0_6 a0_0) fun v1 =>
                  cond (v1)
                    (Option.bind (g66 (↑a0_6.length : Int) a0_1) fun v2 =>
                    some (!v2))
                    (some (false)))
                  (some (false)))
                (some (false)))
              (cond (a0_4 == a0_0)
                (cond (a0_5 == a0_0)
                  (some ((↑a0_6.length : Int) == 0))
                  (some (false)))
                (some (false))))))))
    (cond (a0_3 == 0)
      (cond ((↑a0_6.length : Int) == 0)
        (some (a0_5 != a0_0))
        (some (false)))
      (cond (a0_3 == 1)
        (cond (a0_4 == a0_0)
          (cond (a0_5 == -1)
            (Option.bind (g65 a0_6 a0_0) fun v3 =>
            cond (v3)
              (Option.bind (g66 (↑a0_6.length : Int) a0_1) fun v4 =>
              some (!v4))
              (some (false)))
            (some (false)))
          (some (false)))
        (cond (a0_4 == a0_0)
          (cond (a0_5 == a0_0)
            (some ((↑a0_6.length : Int) == 0))
            (some (false)))
          (some (false)))))
noncomputable def i55 : FI := ⟨ps55, .ty .b, fun (a0_0, a0_1, a0_2, a0_3, a0_4, a0_5, a0_6) => g55 a0_0 a0_1 a0_2 a0_3 a0_4 a0_5 a0_6⟩
theorem e55 : (fun a => i55.G a) = fnEval T Y env55 an i55.ps i55.rs true Try.f55.results.toList lv55 c55 := by kernel_rfl
theorem lo55 : loopsOf c55 = [] := by kernel_rfl
theorem ll55 : LoopsOk T Y env55 an lv55 (finO T true ps55 (.ty .b) Try.f55.results.toList) c55 := loopsOk_of (by rw [lo55]; exact trivial)
theorem k55 : FnOk Try.prog 55 i55 :=
  fn_ok (T := T) (Y := Y) (an := an) (env := env55) (fr := true) (lenv := lv55) mixed tok.1 tok.2 (envCons k65 (envCons k66 (envNil))) (fn := Try.f55) (c := c55) (by kernel_rfl) (by kernel_rfl) (by kernel_rfl) ll55 (fun a => congrFun e55 a)
/-! ### broker/vote.Check -/
noncomputable def c32 : Code := Try.f32.body.getD .skip
noncomputable def env32 : Env := mkEnv [(29, i29), (54, i54)]
abbrev ps32 : List PSh := [.d (.st (.pr (.i .i64) (.pr (.i .i64) (.pr (.i .i64) (.pr (.i .i64) (.pr (.i .i64) (.pr (.i .i64) (.sl (.i .i64)))))))))]
abbrev D32 : Type := pairD (.ty (.i .i64)) (osOf ps32)
def ns32_0 : NS := { slots := [(1, .pt 1 []), (62, .ty (.sl (.i .i64))), (63, .ty (.i .i64)), (64, .ty (.i .i64))], roots := [(1, .ty (.st (.pr (.i .i64) (.pr (.i .i64) (.pr (.i .i64) (.pr (.i .i64) (.pr (.i .i64) (.pr (.i .i64) (.sl (.i .i64))))))))))] }
def ex32_0 : List (Nat × NS) := [(0, { slots := [(1, .pt 1 [])], roots := [(1, .ty (.st (.pr (.i .i64) (.pr (.i .i64) (.pr (.i .i64) (.pr (.i .i64) (.pr (.i .i64) (.pr (.i .i64) (.sl (.i .i64))))))))))] })]
noncomputable def st32_0 (ih : ((List Int × Int × Int) × (Int × Int × Int × Int × Int × Int × List Int)) → Option (((Unit) × (Int × Int × Int × Int × Int × Int × List Int)) ⊕ Int)) : ((List Int × Int × Int) × (Int × Int × Int × Int × Int × Int × List Int)) → Option (((Unit) × (Int × Int × Int × Int × Int × Int × List Int)) ⊕ Int) := fun ((t62, t63, t64), (r1_0, r1_1, r1_2, r1_3, r1_4, r1_5, r1_6)) =>
  cond (decide (t64 < t63))
    (cond (decide (0 ≤ t64) && decide (t64 < (↑t62.length : Int)))
      (cond (decide (t62.getD t64.toNat 0 < 0))
        (some (Sum.inr 1))
        (cond (decide (t62.getD t64.toNat 0 ≥ r1_1))
          (some (Sum.inr 1))
          (cond (decide (t64 > 0))
            (cond (decide (0 ≤ IntKind.i64.wrap (t64 - 1)) && decide (IntKind.i64.wrap (t64 - 1) < (↑r1_6.length : Int)))
              (cond (decide (t62.getD t64.toNat 0 ≤ r1_6.getD (IntKind.i64.wrap (t64 - 1)).toNat 0))
                (some (Sum.inr 22))
                (ih ((t62, t63, IntKind.i64.wrap (t64 + 1)), r1_0, r1_1, r1_2, r1_3, r1_4, r1_5, r1_6)))
              (none))
            (ih ((t62, t63, IntKind.i64.wrap (t64 + 1)), r1_0, r1_1, r1_2, r1_3, r1_4, r1_5, r1_6)))))
      (none))
    (some (Sum.inl ((), r1_0, r1_1, r1_2, r1_3, r1_4, r1_5, r1_6)))
noncomputable def h32_0 : ((List Int × Int × Int) × (Int × Int × Int × Int × Int × Int × List Int)) → Option (((Unit) × (Int × Int × Int × Int × Int × Int × List Int)) ⊕ Int) := loopN st32_0 fuel
noncomputable def l32_0 : LI D32 := ⟨ns32_0, ex32_0, h32_0⟩
noncomputable def lv32 : Nat → Option (LI D32) := fun q => if q = 11 then some l32_0 else (fun _ => none) q
noncomputable def g32 (a0_0 : Int) (a0_1 : Int) (a0_2 : Int) (a0_3 : Int) (a0_4 : Int) (a0_5 : Int) (a0_6 : List Int) : Option (Int) :=
  Option.bind (g29 a0_0 a0_1) fun v1 =>
  cond (v1.2 != 0)
    (some (v1.2))
    (cond (decide (a0_2 < 0))
      (some (1))
      (cond (decide (a0_2 > 1099511627776))
        (some (1))
        (cond (a0_3 != 0)
          (cond (a0_3 != 1)
            (cond (a0_3 != 2)
              (some (10))
              (cond (decide (a0_4 < -1))
                (some (1))
                (cond (decide (a0_4 ≥ a0_1))
                  (some (1))
                  (cond (decide (a0_5 < -1))
                    (some (1))
                    (cond (decide (a0_5 ≥ a0_1))
                      (some (1))
                      (Option.bind (h32_0 ((a0_6, (↑a0_6.length : Int), 0), a0_0, a0_1, a0_2, a0_3, a0_4, a0_5, a0_6)) fun v2 =>
                      match v2 with
                      | .inl x3 =>
                        Option.bind (g54 x3.2.1 x3.2.2.1 x3.2.2.2.1 x3.2.2.2.2.1 x3.2.2.2.2.2.1 x3.2.2.2.2.2.2.1 x3.2.2.2.2.2.2.2) fun v4 =>
                        cond (!v4)
                          (some (9))
                          (some (0))
                      | .inr x3 =>
                        some (x3)))))))
            (cond (decide (a0_4 < -1))
              (some (1))
              (cond (decide (a0_4 ≥ a0_1))
                (some (1))
                (cond (decide (a0_5 < -1))
                  (some (1))
                  (cond (decide (a0_5 ≥ a0_1))
                    (some (1))
                    (Option.bind (h32_0 ((a0_6, (↑a0_6.length : Int), 0), a0_0, a0_1, a0_2, a0_3, a0_4, a0_5, a0_6)) fun v5 =>
                    match v5 with
                    | .inl x6 =>
                      Option.bind (g54 x6.2.1 x6.2.2.1 x6.2.2.2.1 x6.2.2.2.2.1 x6.2.2.2.2.2.1 x6.2.2.2.2.2.2.1 x6.2.2.2.2.2.2.2) fun v7 =>
                      cond (!v7)
                        (some (9))
                        (some (0))
                    | .inr x6 =>
                      some (x6)))))))
          (cond (decide (a0_4 < -1))
            (some (1))
            (cond (decide (a0_4 ≥ a0_1))
              (some (1))
              (cond (decide (a0_5 < -1))
                (some (1))
                (cond (decide (a0_5 ≥ a0_1))
                  (some (1))
                  (Option.bind (h32_0 ((a0_6, (↑a0_6.length : Int), 0), a0_0, a0_1, a0_2, a0_3, a0_4, a0_5, a0_6)) fun v8 =>
                  match v8 with
                  | .inl x9 =>
                    Option.bind (g54 x9.2.1 x9.2.2.1 x9.2.2.2.1 x9.2.2.2.2.1 x9.2.2.2.2.2.1 x9.2.2.2.2.2.2.1 x9.2.2.2.2.2.2.2) fun v10 =>
                    cond (!v10)
                      (some (9))
                      (some (0))
                  | .inr x9 =>
                    some (x9)))))))))
noncomputable def i32 : FI := ⟨ps32, .ty (.i .i64), fun (a0_0, a0_1, a0_2, a0_3, a0_4, a0_5, a0_6) => g32 a0_0 a0_1 a0_2 a0_3 a0_4 a0_5 a0_6⟩
theorem s32_0 : st32_0 = stepEval T Y env32 an lv32 (finO T true ps32 (.ty (.i .i64)) Try.f32.results.toList) (loopAt c32 0) ns32_0 ex32_0 := by kernel_rfl
theorem e32 : (fun a => i32.G a) = fnEval T Y env32 an i32.ps i32.rs true Try.f32.results.toList lv32 c32 := by kernel_rfl
theorem lo32 : loopsOf c32 = [loopAt c32 0] := by kernel_rfl
theorem ll32 : LoopsOk T Y env32 an lv32 (finO T true ps32 (.ty (.i .i64)) Try.f32.results.toList) c32 := loopsOk_of (by rw [lo32]; exact ⟨loop1 (li := l32_0) (by kernel_rfl) (by kernel_rfl) s32_0, trivial⟩)
theorem k32 : FnOk Try.prog 32 i32 :=
  fn_ok (T := T) (Y := Y) (an := an) (env := env32) (fr := true) (lenv := lv32) mixed tok.1 tok.2 (envCons k29 (envCons k54 (envNil))) (fn := Try.f32) (c := c32) (by kernel_rfl) (by kernel_rfl) (by kernel_rfl) ll32 (fun a => congrFun e32 a)
/-! ### broker/brokerref40.Check -/
noncomputable def c35 : Code := Try.f35.body.getD .skip
noncomputable def env35 : Env := mkEnv [(53, i53), (55, i55)]
abbrev ps35 : List PSh := [.d (.st (.pr (.i .i64) (.pr (.i .i64) (.pr (.i .i64) (.pr (.i .i64) (.pr (.i .i64) (.pr (.i .i64) (.sl (.i .i64)))))))))]
abbrev D35 : Type := pairD (.ty (.i .i64)) (osOf ps35)
def ns35_0 : NS := { slots := [(1, .pt 1 []), (45, .ty (.sl (.i .i64))), (46, .ty (.i .i64)), (47, .ty (.i .i64))], roots := [(1, .ty (.st (.pr (.i .i64) (.pr (.i .i64) (.pr (.i .i64) (.pr (.i .i64) (.pr (.i .i64) (.pr (.i .i64) (.sl (.i .i64))))))))))] }
def ex35_0 : List (Nat × NS) := [(0, { slots := [(1, .pt 1 [])], roots := [(1, .ty (.st (.pr (.i .i64) (.pr (.i .i64) (.pr (.i .i64) (.pr (.i .i64) (.pr (.i .i64) (.pr (.i .i64) (.sl (.i .i64))))))))))] })]
noncomputable def st35_0 (ih : ((List Int × Int × Int) × (Int × Int × Int × Int × Int × Int × List Int)) → Option (((Unit) × (Int × Int × Int × Int × Int × Int × List Int)) ⊕ Int)) : ((List Int × Int × Int) × (Int × Int × Int × Int × Int × Int × List Int)) → Option (((Unit) × (Int × Int × Int × Int × Int × Int × List Int)) ⊕ Int) := fun ((t45, t46, t47), (r1_0, r1_1, r1_2, r1_3, r1_4, r1_5, r1_6)) =>
  cond (decide (t47 < t46))
    (cond (decide (0 ≤ t47) && decide (t47 < (↑t45.length : Int)))
      (Option.bind (g53 (t45.getD t47.toNat 0) 0 (IntKind.i64.wrap (r1_1 - 1))) fun v1 =>
      cond (!v1)
        (some (Sum.inr 1))
        (cond (decide (t47 > 0))
          (cond (decide (0 ≤ IntKind.i64.wrap (t47 - 1)) && decide (IntKind.i64.wrap (t47 - 1) < (↑r1_6.length : Int)))
            (cond (decide (t45.getD t47.toNat 0 ≤ r1_6.getD (IntKind.i64.wrap (t47 - 1)).toNat 0))
              (some (Sum.inr 22))
              (ih ((t45, t46, IntKind.i64.wrap (t47 + 1)), r1_0, r1_1, r1_2, r1_3, r1_4, r1_5, r1_6)))
            (none))
          (ih ((t45, t46, IntKind.i64.wrap (t47 + 1)), r1_0, r1_1, r1_2, r1_3, r1_4, r1_5, r1_6))))
      (none))
    (some (Sum.inl ((), r1_0, r1_1, r1_2, r1_3, r1_4, r1_5, r1_6)))
noncomputable def h35_0 : ((List Int × Int × Int) × (Int × Int × Int × Int × Int × Int × List Int)) → Option (((Unit) × (Int × Int × Int × Int × Int × Int × List Int)) ⊕ Int) := loopN st35_0 fuel
noncomputable def l35_0 : LI D35 := ⟨ns35_0, ex35_0, h35_0⟩
noncomputable def lv35 : Nat → Option (LI D35) := fun q => if q = 8 then some l35_0 else (fun _ => none) q
noncomputable def g35 (a0_0 : Int) (a0_1 : Int) (a0_2 : Int) (a0_3 : Int) (a0_4 : Int) (a0_5 : Int) (a0_6 : List Int) : Option (Int) :=
  Option.bind (g53 a0_1 1 7) fun v1 =>
  cond (!v1)
    (some (1))
    (Option.bind (g53 a0_0 0 (IntKind.i64.wrap (a0_1 - 1))) fun v2 =>
    cond (!v2)
      (some (1))
      (Option.bind (g53 a0_2 0 1099511627776) fun v3 =>
      cond (!v3)
        (some (1))
        (Option.bind (g53 a0_3 0 2) fun v4 =>
        cond (!v4)
          (some (10))
          (Option.bind (g53 a0_4 (-1) (IntKind.i64.wrap (a0_1 - 1))) fun v5 =>
          cond (!v5)
            (some (1))
            (Option.bind (g53 a0_5 (-1) (IntKind.i64.wrap (a0_1 - 1))) fun v6 =>
            cond (!v6)
              (some (1))
              (Option.bind (h35_0 ((a0_6, (↑a0_6.length : Int), 0), a0_0, a0_1, a0_2, a0_3, a0_4, a0_5, a0_6)) fun v7 =>
              match v7 with
              | .inl x8 =>
                Option.bind (g55 x8.2.1 x8.2.2.1 x8.2.2.2.1 x8.2.2.2.2.1 x8.2.2.2.2.2.1 x8.2.2.2.2.2.2.1 x8.2.2.2.2.2.2.2) fun v9 =>
                cond (!v9)
                  (some (9))
                  (some (0))
              | .inr x8 =>
                some (x8)))))))
noncomputable def i35 : FI := ⟨ps35, .ty (.i .i64), fun (a0_0, a0_1, a0_2, a0_3, a0_4, a0_5, a0_6) => g35 a0_0 a0_1 a0_2 a0_3 a0_4 a0_5 a0_6⟩
theorem s35_0 : st35_0 = stepEval T Y env35 an lv35 (finO T true ps35 (.ty (.i .i64)) Try.f35.results.toList) (loopAt c35 0) ns35_0 ex35_0 := by kernel_rfl
theorem e35 : (fun a => i35.G a) = fnEval T Y env35 an i35.ps i35.rs true Try.f35.results.toList lv35 c35 := by kernel_rfl
theorem lo35 : loopsOf c35 = [loopAt c35 0] := by kernel_rfl
theorem ll35 : LoopsOk T Y env35 an lv35 (finO T true ps35 (.ty (.i .i64)) Try.f35.results.toList) c35 := loopsOk_of (by rw [lo35]; exact ⟨loop1 (li := l35_0) (by kernel_rfl) (by kernel_rfl) s35_0, trivial⟩)
theorem k35 : FnOk Try.prog 35 i35 :=
  fn_ok (T := T) (Y := Y) (an := an) (env := env35) (fr := true) (lenv := lv35) mixed tok.1 tok.2 (envCons k53 (envCons k55 (envNil))) (fn := Try.f35) (c := c35) (by kernel_rfl) (by kernel_rfl) (by kernel_rfl) ll35 (fun a => congrFun e35 a)
/-! ### broker/brokerref41.in -/
noncomputable def c36 : Code := Try.f36.body.getD .skip
noncomputable def env36 : Env := mkEnv []
abbrev ps36 : List PSh := [.d (.i .i64), .d (.i .i64), .d (.i .i64)]
abbrev D36 : Type := pairD (.ty .b) (osOf ps36)
noncomputable def lv36 : Nat → Option (LI D36) := fun _ => none
noncomputable def g36 (a0 : Int) (a1 : Int) (a2 : Int) : Option (Bool) :=
  cond (decide (a1 ≤ a0))
    (some (decide (a0 ≤ a2)))
    (some (false))
noncomputable def i36 : FI := ⟨ps36, .ty .b, fun (a0, a1, a2) => g36 a0 a1 a2⟩
theorem e36 : (fun a => i36.G a) = fnEval T Y env36 an i36.ps i36.rs true Try.f36.results.toList lv36 c36 := by kernel_rfl
theorem lo36 : loopsOf c36 = [] := by kernel_rfl
theorem ll36 : LoopsOk T Y env36 an lv36 (finO T true ps36 (.ty .b) Try.f36.results.toList) c36 := loopsOk_of (by rw [lo36]; exact trivial)
theorem k36 : FnOk Try.prog 36 i36 :=
  fn_ok (T := T) (Y := Y) (an := an) (env := env36) (fr := true) (lenv := lv36) mixed tok.1 tok.2 (envNil) (fn := Try.f36) (c := c36) (by kernel_rfl) (by kernel_rfl) (by kernel_rfl) ll36 (fun a => congrFun e36 a)
/-! ### broker/brokerref41.TermAt -/
noncomputable def c37 : Code := Try.f37.body.getD .skip
noncomputable def env37 : Env := mkEnv []
abbrev ps37 : List PSh := [.d (.sl (.st (.pr (.i .i64) .s))), .d (.i .i64)]
abbrev D37 : Type := pairD (.ty (.i .i64)) (osOf ps37)
noncomputable def lv37 : Nat → Option (LI D37) := fun _ => none
noncomputable def g37 (a0 : List (Int × List UInt8)) (a1 : Int) : Option (Int) :=
  cond (decide (a1 < 1))
    (some (0))
    (cond (decide (a1 > (↑a0.length : Int)))
      (some (0))
      (cond (decide (0 ≤ IntKind.i64.wrap (a1 - 1)) && decide (IntKind.i64.wrap (a1 - 1) < (↑a0.length : Int)))
        (some ((a0.getD (IntKind.i64.wrap (a1 - 1)).toNat (0, [])).1))
        (none)))
noncomputable def i37 : FI := ⟨ps37, .ty (.i .i64), fun (a0, a1) => g37 a0 a1⟩
theorem e37 : (fun a => i37.G a) = fnEval T Y env37 an i37.ps i37.rs true Try.f37.results.toList lv37 c37 := by kernel_rfl
theorem lo37 : loopsOf c37 = [] := by kernel_rfl
theorem ll37 : LoopsOk T Y env37 an lv37 (finO T true ps37 (.ty (.i .i64)) Try.f37.results.toList) c37 := loopsOk_of (by rw [lo37]; exact trivial)
theorem k37 : FnOk Try.prog 37 i37 :=
  fn_ok (T := T) (Y := Y) (an := an) (env := env37) (fr := true) (lenv := lv37) mixed tok.1 tok.2 (envNil) (fn := Try.f37) (c := c37) (by kernel_rfl) (by kernel_rfl) (by kernel_rfl) ll37 (fun a => congrFun e37 a)
/-! ### broker/brokerref41.Leads -/
noncomputable def c38 : Code := Try.f38.body.getD .skip
noncomputable def env38 : Env := mkEnv []
abbrev ps38 : List PSh := [.d (.st (.pr (.st (.pr (.i .i64) (.pr (.i .i64) (.pr (.i .i64) (.pr (.i .i64) (.pr (.i .i64) (.pr (.i .i64) (.sl (.i .i64))))))))) (.pr (.i .i64) (.pr (.sl (.st (.pr (.i .i64) .s))) (.sl (.i .i64))))))]
abbrev D38 : Type := pairD (.ty .b) (osOf ps38)
noncomputable def lv38 : Nat → Option (LI D38) := fun _ => none
noncomputable def g38 (a0_0_0 : Int) (a0_0_1 : Int) (a0_0_2 : Int) (a0_0_3 : Int) (a0_0_4 : Int) (a0_0_5 : Int) (a0_0_6 : List Int) (a0_1 : Int) (a0_2 : List (Int × List UInt8)) (a0_3 : List Int) : Option (Bool) :=
  some (a0_0_3 == 2)
noncomputable def i38 : FI := ⟨ps38, .ty .b, fun ((a0_0_0, a0_0_1, a0_0_2, a0_0_3, a0_0_4, a0_0_5, a0_0_6), a0_1, a0_2, a0_3) => g38 a0_0_0 a0_0_1 a0_0_2 a0_0_3 a0_0_4 a0_0_5 a0_0_6 a0_1 a0_2 a0_3⟩
theorem e38 : (fun a => i38.G a) = fnEval T Y env38 an i38.ps i38.rs true Try.f38.results.toList lv38 c38 := by kernel_rfl
theorem lo38 : loopsOf c38 = [] := by kernel_rfl
theorem ll38 : LoopsOk T Y env38 an lv38 (finO T true ps38 (.ty .b) Try.f38.results.toList) c38 := loopsOk_of (by rw [lo38]; exact trivial)
theorem k38 : FnOk Try.prog 38 i38 :=
  fn_ok (T := T) (Y := Y) (an := an) (env := env38) (fr := true) (lenv := lv38) mixed tok.1 tok.2 (envNil) (fn := Try.f38) (c := c38) (by kernel_rfl) (by kernel_rfl) (by kernel_rfl) ll38 (fun a => congrFun e38 a)
/-! ### broker/replica.leads -/
noncomputable def c34 : Code := Try.f34.body.getD .skip
noncomputable def env34 : Env := mkEnv []
abbrev ps34 : List PSh := [.d (.st (.pr (.st (.pr (.i .i64) (.pr (.i .i64) (.pr (.i .i64) (.pr (.i .i64) (.pr (.i .i64) (.pr (.i .i64) (.sl (.i .i64))))))))) (.pr (.i .i64) (.pr (.sl (.st (.pr (.i .i64) .s))) (.sl (.i .i64))))))]
abbrev D34 : Type := pairD (.ty .b) (osOf ps34)
noncomputable def lv34 : Nat → Option (LI D34) := fun _ => none
noncomputable def g34 (a0_0_0 : Int) (a0_0_1 : Int) (a0_0_2 : Int) (a0_0_3 : Int) (a0_0_4 : Int) (a0_0_5 : Int) (a0_0_6 : List Int) (a0_1 : Int) (a0_2 : List (Int × List UInt8)) (a0_3 : List Int) : Option (Bool) :=
  some (a0_0_3 == 2)
noncomputable def i34 : FI := ⟨ps34, .ty .b, fun ((a0_0_0, a0_0_1, a0_0_2, a0_0_3, a0_0_4, a0_0_5, a0_0_6), a0_1, a0_2, a0_3) => g34 a0_0_0 a0_0_1 a0_0_2 a0_0_3 a0_0_4 a0_0_5 a0_0_6 a0_1 a0_2 a0_3⟩
theorem e34 : (fun a => i34.G a) = fnEval T Y env34 an i34.ps i34.rs true Try.f34.results.toList lv34 c34 := by kernel_rfl
theorem lo34 : loopsOf c34 = [] := by kernel_rfl
theorem ll34 : LoopsOk T Y env34 an lv34 (finO T true ps34 (.ty .b) Try.f34.results.toList) c34 := loopsOk_of (by rw [lo34]; exact trivial)
theorem k34 : FnOk Try.prog 34 i34 :=
  fn_ok (T := T) (Y := Y) (an := an) (env := env34) (fr := true) (lenv := lv34) mixed tok.1 tok.2 (envNil) (fn := Try.f34) (c := c34) (by kernel_rfl) (by kernel_rfl) (by kernel_rfl) ll34 (fun a => congrFun e34 a)
/-! ### broker/replica.checkLog -/
noncomputable def c33 : Code := Try.f33.body.getD .skip
noncomputable def env33 : Env := mkEnv []
abbrev ps33 : List PSh := [.d (.st (.pr (.st (.pr (.i .i64) (.pr (.i .i64) (.pr (.i .i64) (.pr (.i .i64) (.pr (.i .i64) (.pr (.i .i64) (.sl (.i .i64))))))))) (.pr (.i .i64) (.pr (.sl (.st (.pr (.i .i64) .s))) (.sl (.i .i64))))))]
abbrev D33 : Type := pairD (.ty (.i .i64)) (osOf ps33)
def ns33_0 : NS := { slots := [(1, .pt 1 []), (10, .ty (.sl (.st (.pr (.i .i64) .s)))), (11, .ty (.i .i64)), (12, .ty (.i .i64))], roots := [(1, .ty (.st (.pr (.st (.pr (.i .i64) (.pr (.i .i64) (.pr (.i .i64) (.pr (.i .i64) (.pr (.i .i64) (.pr (.i .i64) (.sl (.i .i64))))))))) (.pr (.i .i64) (.pr (.sl (.st (.pr (.i .i64) .s))) (.sl (.i .i64)))))))] }
def ex33_0 : List (Nat × NS) := [(0, { slots := [(1, .pt 1 [])], roots := [(1, .ty (.st (.pr (.st (.pr (.i .i64) (.pr (.i .i64) (.pr (.i .i64) (.pr (.i .i64) (.pr (.i .i64) (.pr (.i .i64) (.sl (.i .i64))))))))) (.pr (.i .i64) (.pr (.sl (.st (.pr (.i .i64) .s))) (.sl (.i .i64)))))))] })]
noncomputable def st33_0 (ih : (((List (Int × List UInt8)) × Int × Int) × ((Int × Int × Int × Int × Int × Int × List Int) × Int × List (Int × List UInt8) × List Int)) → Option (((Unit) × ((Int × Int × Int × Int × Int × Int × List Int) × Int × List (Int × List UInt8) × List Int)) ⊕ Int)) : (((List (Int × List UInt8)) × Int × Int) × ((Int × Int × Int × Int × Int × Int × List Int) × Int × List (Int × List UInt8) × List Int)) → Option (((Unit) × ((Int × Int × Int × Int × Int × Int × List Int) × Int × List (Int × List UInt8) × List Int)) ⊕ Int) := fun ((t10, t11, t12), ((r1_0_0, r1_0_1, r1_0_2, r1_0_3, r1_0_4, r1_0_5, r1_0_6), r1_1, r1_2, r1_3)) =>
  cond (decide (t12 < t11))
    (cond (decide (0 ≤ t12) && decide (t12 < (↑t10.length : Int)))
      (cond (decide ((t10.getD t12.toNat (0, [])).1 < 1))
        (some (Sum.inr 1))
        (cond (decide ((t10.getD t12.toNat (0, [])).1 > r1_0_2))
          (some (Sum.inr 1))
          (cond (decide (t12 > 0))
            (cond (decide (0 ≤ IntKind.i64.wrap (t12 - 1)) && decide (IntKind.i64.wrap (t12 - 1) < (↑r1_2.length : Int)))
              (cond (decide ((t10.getD t12.toNat (0, [])).1 < (r1_2.getD (IntKind.i64.wrap (t12 - 1)).toNat (0, [])).1))
                (some (Sum.inr 22))
                (cond (decide ((↑(List.length (t10.getD t12.toNat (0, [])).2) : Int) > 65536))
                  (some (Sum.inr 5))
                  (ih ((t10, t11, IntKind.i64.wrap (t12 + 1)), (r1_0_0, r1_0_1, r1_0_2, r1_0_3, r1_0_4, r1_0_5, r1_0_6), r1_1, r1_2, r1_3))))
              (none))
            (cond (decide ((↑(List.length (t10.getD t12.toNat (0, [])).2) : Int) > 65536))
              (some (Sum.inr 5))
              (ih ((t10, t11, IntKind.i64.wrap (t12 + 1)), (r1_0_0, r1_0_1, r1_0_2, r1_0_3, r1_0_4, r1_0_5, r1_0_6), r1_1, r1_2, r1_3))))))
      (none))
    (some (Sum.inl ((), (r1_0_0, r1_0_1, r1_0_2, r1_0_3, r1_0_4, r1_0_5, r1_0_6), r1_1, r1_2, r1_3)))
noncomputable def h33_0 : (((List (Int × List UInt8)) × Int × Int) × ((Int × Int × Int × Int × Int × Int × List Int) × Int × List (Int × List UInt8) × List Int)) → Option (((Unit) × ((Int × Int × Int × Int × Int × Int × List Int) × Int × List (Int × List UInt8) × List Int)) ⊕ Int) := loopN st33_0 fuel
noncomputable def l33_0 : LI D33 := ⟨ns33_0, ex33_0, h33_0⟩
noncomputable def lv33 : Nat → Option (LI D33) := fun q => if q = 4 then some l33_0 else (fun _ => none) q
noncomputable def g33 (a0_0_0 : Int) (a0_0_1 : Int) (a0_0_2 : Int) (a0_0_3 : Int) (a0_0_4 : Int) (a0_0_5 : Int) (a0_0_6 : List Int) (a0_1 : Int) (a0_2 : List (Int × List UInt8)) (a0_3 : List Int) : Option (Int) :=
  cond (decide ((↑a0_2.length : Int) > 4096))
    (some (5))
    (Option.bind (h33_0 ((a0_2, (↑a0_2.length : Int), 0), (a0_0_0, a0_0_1, a0_0_2, a0_0_3, a0_0_4, a0_0_5, a0_0_6), a0_1, a0_2, a0_3)) fun v1 =>
    match v1 with
    | .inl x2 =>
      cond (decide (x2.2.2.1 < 0))
        (some (1))
        (cond (decide (x2.2.2.1 > (↑(List.length x2.2.2.2.1) : Int)))
          (some (1))
          (some (0)))
    | .inr x2 =>
      some (x2))
noncomputable def i33 : FI := ⟨ps33, .ty (.i .i64), fun ((a0_0_0, a0_0_1, a0_0_2, a0_0_3, a0_0_4, a0_0_5, a0_0_6), a0_1, a0_2, a0_3) => g33 a0_0_0 a0_0_1 a0_0_2 a0_0_3 a0_0_4 a0_0_5 a0_0_6 a0_1 a0_2 a0_3⟩
theorem s33_0 : st33_0 = stepEval T Y env33 an lv33 (finO T true ps33 (.ty (.i .i64)) Try.f33.results.toList) (loopAt c33 0) ns33_0 ex33_0 := by kernel_rfl
theorem e33 : (fun a => i33.G a) = fnEval T Y env33 an i33.ps i33.rs true Try.f33.results.toList lv33 c33 := by kernel_rfl
theorem lo33 : loopsOf c33 = [loopAt c33 0] := by kernel_rfl
theorem ll33 : LoopsOk T Y env33 an lv33 (finO T true ps33 (.ty (.i .i64)) Try.f33.results.toList) c33 := loopsOk_of (by rw [lo33]; exact ⟨loop1 (li := l33_0) (by kernel_rfl) (by kernel_rfl) s33_0, trivial⟩)
theorem k33 : FnOk Try.prog 33 i33 :=
  fn_ok (T := T) (Y := Y) (an := an) (env := env33) (fr := true) (lenv := lv33) mixed tok.1 tok.2 (envNil) (fn := Try.f33) (c := c33) (by kernel_rfl) (by kernel_rfl) (by kernel_rfl) ll33 (fun a => congrFun e33 a)
/-! ### broker/replica.termAt -/
noncomputable def c52 : Code := Try.f52.body.getD .skip
noncomputable def env52 : Env := mkEnv []
abbrev ps52 : List PSh := [.d (.sl (.st (.pr (.i .i64) .s))), .d (.i .i64)]
abbrev D52 : Type := pairD (.ty (.i .i64)) (osOf ps52)
noncomputable def lv52 : Nat → Option (LI D52) := fun _ => none
noncomputable def g52 (a0 : List (Int × List UInt8)) (a1 : Int) : Option (Int) :=
  cond (a1 == 0)
    (some (0))
    (cond (decide (0 ≤ IntKind.i64.wrap (a1 - 1)) && decide (IntKind.i64.wrap (a1 - 1) < (↑a0.length : Int)))
      (some ((a0.getD (IntKind.i64.wrap (a1 - 1)).toNat (0, [])).1))
      (none))
noncomputable def i52 : FI := ⟨ps52, .ty (.i .i64), fun (a0, a1) => g52 a0 a1⟩
theorem e52 : (fun a => i52.G a) = fnEval T Y env52 an i52.ps i52.rs true Try.f52.results.toList lv52 c52 := by kernel_rfl
theorem lo52 : loopsOf c52 = [] := by kernel_rfl
theorem ll52 : LoopsOk T Y env52 an lv52 (finO T true ps52 (.ty (.i .i64)) Try.f52.results.toList) c52 := loopsOk_of (by rw [lo52]; exact trivial)
theorem k52 : FnOk Try.prog 52 i52 :=
  fn_ok (T := T) (Y := Y) (an := an) (env := env52) (fr := true) (lenv := lv52) mixed tok.1 tok.2 (envNil) (fn := Try.f52) (c := c52) (by kernel_rfl) (by kernel_rfl) (by kernel_rfl) ll52 (fun a => congrFun e52 a)
/-! ### broker/replica.lastTerm -/
noncomputable def c41 : Code := Try.f41.body.getD .skip
noncomputable def env41 : Env := mkEnv [(52, i52)]
abbrev ps41 : List PSh := [.d (.sl (.st (.pr (.i .i64) .s)))]
abbrev D41 : Type := pairD (.ty (.i .i64)) (osOf ps41)
noncomputable def lv41 : Nat → Option (LI D41) := fun _ => none
noncomputable def g41 (a0 : List (Int × List UInt8)) : Option (Int) :=
  Option.bind (g52 a0 (↑a0.length : Int)) fun v1 =>
  some (v1)
noncomputable def i41 : FI := ⟨ps41, .ty (.i .i64), fun a0 => g41 a0⟩
theorem e41 : (fun a => i41.G a) = fnEval T Y env41 an i41.ps i41.rs true Try.f41.results.toList lv41 c41 := by kernel_rfl
theorem lo41 : loopsOf c41 = [] := by kernel_rfl
theorem ll41 : LoopsOk T Y env41 an lv41 (finO T true ps41 (.ty (.i .i64)) Try.f41.results.toList) c41 := loopsOk_of (by rw [lo41]; exact trivial)
theorem k41 : FnOk Try.prog 41 i41 :=
  fn_ok (T := T) (Y := Y) (an := an) (env := env41) (fr := true) (lenv := lv41) mixed tok.1 tok.2 (envCons k52 (envNil)) (fn := Try.f41) (c := c41) (by kernel_rfl) (by kernel_rfl) (by kernel_rfl) ll41 (fun a => congrFun e41 a)
/-! ### broker/replica.commit$1 -/
noncomputable def c64 : Code := Try.f64.body.getD .skip
noncomputable def env64 : Env := mkEnv []
abbrev ps64 : List PSh := [.d (.i .i64), .p (.st (.pr (.st (.pr (.i .i64) (.pr (.i .i64) (.pr (.i .i64) (.pr (.i .i64) (.pr (.i .i64) (.pr (.i .i64) (.sl (.i .i64))))))))) (.pr (.i .i64) (.pr (.sl (.st (.pr (.i .i64) .s))) (.sl (.i .i64))))))]
abbrev D64 : Type := pairD (.ty (.i .i64)) (osOf ps64)
def ns64_0 : NS := { slots := [(0, .ty (.i .i64)), (4, .ty (.i .i64)), (8, .ty (.sl (.i .i64))), (9, .ty (.i .i64)), (10, .ty (.i .i64))], roots := [] }
def ex64_0 : List (Nat × NS) := [(0, { slots := [(4, .ty (.i .i64))], roots := [] })]
noncomputable def st64_0 (ih : ((Int × Int × List Int × Int × Int) × (Unit)) → Option (((Int) × (Unit)) ⊕ Int)) : ((Int × Int × List Int × Int × Int) × (Unit)) → Option (((Int) × (Unit)) ⊕ Int) := fun ((t0, t4, t8, t9, t10), ()) =>
  cond (decide (t10 < t9))
    (cond (decide (0 ≤ t10) && decide (t10 < (↑t8.length : Int)))
      (cond (decide (t8.getD t10.toNat 0 ≥ t0))
        (ih ((t0, IntKind.i64.wrap (t4 + 1), t8, t9, IntKind.i64.wrap (t10 + 1)), ()))
        (ih ((t0, t4, t8, t9, IntKind.i64.wrap (t10 + 1)), ())))
      (none))
    (some (Sum.inl (t4, ())))
noncomputable def h64_0 : ((Int × Int × List Int × Int × Int) × (Unit)) → Option (((Int) × (Unit)) ⊕ Int) := loopN st64_0 fuel
noncomputable def l64_0 : LI D64 := ⟨ns64_0, ex64_0, h64_0⟩
noncomputable def lv64 : Nat → Option (LI D64) := fun q => if q = 3 then some l64_0 else (fun _ => none) q
noncomputable def g64 (a0 : Int) (a1_0_0 : Int) (a1_0_1 : Int) (a1_0_2 : Int) (a1_0_3 : Int) (a1_0_4 : Int) (a1_0_5 : Int) (a1_0_6 : List Int) (a1_1 : Int) (a1_2 : List (Int × List UInt8)) (a1_3 : List Int) : Option (Int) :=
  Option.bind (h64_0 ((a0, 0, a1_3, (↑a1_3.length : Int), 0), ())) fun v1 =>
  match v1 with
  | .inl x2 =>
    some (x2.1)
  | .inr x2 =>
    some (x2)
noncomputable def i64 : FI := ⟨ps64, .ty (.i .i64), fun (a0, ((a1_0_0, a1_0_1, a1_0_2, a1_0_3, a1_0_4, a1_0_5, a1_0_6), a1_1, a1_2, a1_3)) => g64 a0 a1_0_0 a1_0_1 a1_0_2 a1_0_3 a1_0_4 a1_0_5 a1_0_6 a1_1 a1_2 a1_3⟩
theorem s64_0 : st64_0 = stepEval T Y env64 an lv64 (finO T true ps64 (.ty (.i .i64)) Try.f64.results.toList) (loopAt c64 0) ns64_0 ex64_0 := by kernel_rfl
theorem e64 : (fun a => i64.G a) = fnEval T Y env64 an i64.ps i64.rs true Try.f64.results.toList lv64 c64 := by kernel_rfl
theorem lo64 : loopsOf c64 = [loopAt c64 0] := by kernel_rfl
theorem ll64 : LoopsOk T Y env64 an lv64 (finO T true ps64 (.ty (.i .i64)) Try.f64.results.toList) c64 := loopsOk_of (by rw [lo64]; exact ⟨loop1 (li := l64_0) (by kernel_rfl) (by kernel_rfl) s64_0, trivial⟩)
theorem k64 : FnOk Try.prog 64 i64 :=
  fn_ok (T := T) (Y := Y) (an := an) (env := env64) (fr := true) (lenv := lv64) mixed tok.1 tok.2 (envNil) (fn := Try.f64) (c := c64) (by kernel_rfl) (by kernel_rfl) (by kernel_rfl) ll64 (fun a => congrFun e64 a)
/-! ### broker/replica.commit -/
noncomputable def c50 : Code := Try.f50.body.getD .skip
noncomputable def env50 : Env := mkEnv [(64, i64), (52, i52), (62, i62)]
abbrev ps50 : List PSh := [.d (.st (.pr (.st (.pr (.i .i64) (.pr (.i .i64) (.pr (.i .i64) (.pr (.i .i64) (.pr (.i .i64) (.pr (.i .i64) (.sl (.i .i64))))))))) (.pr (.i .i64) (.pr (.sl (.st (.pr (.i .i64) .s))) (.sl (.i .i64))))))]
abbrev D50 : Type := pairD (.ty (.st (.pr (.st (.pr (.i .i64) (.pr (.i .i64) (.pr (.i .i64) (.pr (.i .i64) (.pr (.i .i64) (.pr (.i .i64) (.sl (.i .i64))))))))) (.pr (.i .i64) (.pr (.sl (.st (.pr (.i .i64) .s))) (.sl (.i .i64))))))) (osOf ps50)
def ns50_0 : NS := { slots := [(1, .pt 1 []), (2, .pt 2 []), (3, .fn 64 [1]), (4, .ty (.i .i64))], roots := [(1, .ty (.st (.pr (.st (.pr (.i .i64) (.pr (.i .i64) (.pr (.i .i64) (.pr (.i .i64) (.pr (.i .i64) (.pr (.i .i64) (.sl (.i .i64))))))))) (.pr (.i .i64) (.pr (.sl (.st (.pr (.i .i64) .s))) (.sl (.i .i64))))))), (2, .ty (.st (.pr (.st (.pr (.i .i64) (.pr (.i .i64) (.pr (.i .i64) (.pr (.i .i64) (.pr (.i .i64) (.pr (.i .i64) (.sl (.i .i64))))))))) (.pr (.i .i64) (.pr (.sl (.st (.pr (.i .i64) .s))) (.sl (.i .i64)))))))] }
def ex50_0 : List (Nat × NS) := [(0, { slots := [(1, .pt 1 []), (2, .pt 2 [])], roots := [(2, .ty (.st (.pr (.st (.pr (.i .i64) (.pr (.i .i64) (.pr (.i .i64) (.pr (.i .i64) (.pr (.i .i64) (.pr (.i .i64) (.sl (.i .i64))))))))) (.pr (.i .i64) (.pr (.sl (.st (.pr (.i .i64) .s))) (.sl (.i .i64))))))), (1, .ty (.st (.pr (.st (.pr (.i .i64) (.pr (.i .i64) (.pr (.i .i64) (.pr (.i .i64) (.pr (.i .i64) (.pr (.i .i64) (.sl (.i .i64))))))))) (.pr (.i .i64) (.pr (.sl (.st (.pr (.i .i64) .s))) (.sl (.i .i64)))))))] })]
noncomputable def st50_0 (ih : ((Int) × (((Int × Int × Int × Int × Int × Int × List Int) × Int × List (Int × List UInt8) × List Int) × (Int × Int × Int × Int × Int × Int × List Int) × Int × List (Int × List UInt8) × List Int)) → Option (((Unit) × (((Int × Int × Int × Int × Int × Int × List Int) × Int × List (Int × List UInt8) × List Int) × (Int × Int × Int × Int × Int × Int × List Int) × Int × List (Int × List UInt8) × List Int)) ⊕ (((Int × Int × Int × Int × Int × Int × List Int) × Int × List (Int × List UInt8) × List Int)))) : ((Int) × (((Int × Int × Int × Int × Int × Int × List Int) × Int × List (Int × List UInt8) × List Int) × (Int × Int × Int × Int × Int × Int × List Int) × Int × List (Int × List UInt8) × List Int)) → Option (((Unit) × (((Int × Int × Int × Int × Int × Int × List Int) × Int × List (Int × List UInt8) × List Int) × (Int × Int × Int × Int × Int × Int × List Int) × Int × List (Int × List UInt8) × List Int)) ⊕ (((Int × Int × Int × Int × Int × Int × List Int) × Int × List (Int × List UInt8) × List Int))) := fun (t4, (((r1_0_0, r1_0_1, r1_0_2, r1_0_3, r1_0_4, r1_0_5, r1_0_6), r1_1, r1_2, r1_3), ((r2_0_0, r2_0_1, r2_0_2, r2_0_3, r2_0_4, r2_0_5, r2_0_6), r2_1, r2_2, r2_3))) =>
  cond (decide (t4 > r1_1))
    (Option.bind (g52 r1_2 t4) fun v1 =>
    cond (v1 == r1_0_2)
      (Option.bind (g64 t4 r1_0_0 r1_0_1 r1_0_2 r1_0_3 r1_0_4 r1_0_5 r1_0_6 r1_1 r1_2 r1_3) fun v2 =>
      Option.bind (g62 v2 r1_0_1) fun v3 =>
      cond (v3)
        (some (Sum.inl ((), ((r2_0_0, r2_0_1, r2_0_2, r2_0_3, r2_0_4, r2_0_5, r2_0_6), r2_1, r2_2, r2_3), (r1_0_0, r1_0_1, r1_0_2, r1_0_3, r1_0_4, r1_0_5, r1_0_6), t4, r1_2, r1_3)))
        (ih (IntKind.i64.wrap (t4 - 1), ((r1_0_0, r1_0_1, r1_0_2, r1_0_3, r1_0_4, r1_0_5, r1_0_6), r1_1, r1_2, r1_3), (r2_0_0, r2_0_1, r2_0_2, r2_0_3, r2_0_4, r2_0_5, r2_0_6), r2_1, r2_2, r2_3)))
      (ih (IntKind.i64.wrap (t4 - 1), ((r1_0_0, r1_0_1, r1_0_2, r1_0_3, r1_0_4, r1_0_5, r1_0_6), r1_1, r1_2, r1_3), (r2_0_0, r2_0_1, r2_0_2, r2_0_3, r2_0_4, r2_0_5, r2_0_6), r2_1, r2_2, r2_3)))
    (some (Sum.inl ((), ((r2_0_0, r2_0_1, r2_0_2, r2_0_3, r2_0_4, r2_0_5, r2_0_6), r2_1, r2_2, r2_3), (r1_0_0, r1_0_1, r1_0_2, r1_0_3, r1_0_4, r1_0_5, r1_0_6), r1_1, r1_2, r1_3)))
noncomputable def h50_0 : ((Int) × (((Int × Int × Int × Int × Int × Int × List Int) × Int × List (Int × List UInt8) × List Int) × (Int × Int × Int × Int × Int × Int × List Int) × Int × List (Int × List UInt8) × List Int)) → Option (((Unit) × (((Int × Int × Int × Int × Int × Int × List Int) × Int × List (Int × List UInt8) × List Int) × (Int × Int × Int × Int × Int × Int × List Int) × Int × List (Int × List UInt8) × List Int)) ⊕ (((Int × Int × Int × Int × Int × Int × List Int) × Int × List (Int × List UInt8) × List Int))) := loopN st50_0 fuel
noncomputable def l50_0 : LI D50 := ⟨ns50_0, ex50_0, h50_0⟩
noncomputable def lv50 : Nat → Option (LI D50) := fun q => if q = 3 then some l50_0 else (fun _ => none) q
noncomputable def g50 (a0_0_0 : Int) (a0_0_1 : Int) (a0_0_2 : Int) (a0_0_3 : Int) (a0_0_4 : Int) (a0_0_5 : Int) (a0_0_6 : List Int) (a0_1 : Int) (a0_2 : List (Int × List UInt8)) (a0_3 : List Int) : Option ((Int × Int × Int × Int × Int × Int × List Int) × Int × List (Int × List UInt8) × List Int) :=
  Option.bind (h50_0 ((↑a0_2.length : Int), ((a0_0_0, a0_0_1, a0_0_2, a0_0_3, a0_0_4, a0_0_5, a0_0_6), a0_1, a0_2, a0_3), (0, 0, 0, 0, 0, 0, []), 0, [], [])) fun v1 =>
  match v1 with
  | .inl x2 =>
    some (x2.2.2)
  | .inr x2 =>
    some (x2)
noncomputable def i50 : FI := ⟨ps50, .ty (.st (.pr (.st (.pr (.i .i64) (.pr (.i .i64) (.pr (.i .i64) (.pr (.i .i64) (.pr (.i .i64) (.pr (.i .i64) (.sl (.i .i64))))))))) (.pr (.i .i64) (.pr (.sl (.st (.pr (.i .i64) .s))) (.sl (.i .i64)))))), fun ((a0_0_0, a0_0_1, a0_0_2, a0_0_3, a0_0_4, a0_0_5, a0_0_6), a0_1, a0_2, a0_3) => g50 a0_0_0 a0_0_1 a0_0_2 a0_0_3 a0_0_4 a0_0_5 a0_0_6 a0_1 a0_2 a0_3⟩
theorem s50_0 : st50_0 = stepEval T Y env50 an lv50 (finO T true ps50 (.ty (.st (.pr (.st (.pr (.i .i64) (.pr (.i .i64) (.pr (.i .i64) (.pr (.i .i64) (.pr (.i .i64) (.pr (.i .i64) (.sl (.i .i64))))))))) (.pr (.i .i64) (.pr (.sl (.st (.pr (.i .i64) .s))) (.sl (.i .i64))))))) Try.f50.results.toList) (loopAt c50 0) ns50_0 ex50_0 := by kernel_rfl
theorem e50 : (fun a => i50.G a) = fnEval T Y env50 an i50.ps i50.rs true Try.f50.results.toList lv50 c50 := by kernel_rfl
theorem lo50 : loopsOf c50 = [loopAt c50 0] := by kernel_rfl
theorem ll50 : LoopsOk T Y env50 an lv50 (finO T true ps50 (.ty (.st (.pr (.st (.pr (.i .i64) (.pr (.i .i64) (.pr (.i .i64) (.pr (.i .i64) (.pr (.i .i64) (.pr (.i .i64) (.sl (.i .i64))))))))) (.pr (.i .i64) (.pr (.sl (.st (.pr (.i .i64) .s))) (.sl (.i .i64))))))) Try.f50.results.toList) c50 := loopsOk_of (by rw [lo50]; exact ⟨loop1 (li := l50_0) (by kernel_rfl) (by kernel_rfl) s50_0, trivial⟩)
theorem k50 : FnOk Try.prog 50 i50 :=
  fn_ok (T := T) (Y := Y) (an := an) (env := env50) (fr := true) (lenv := lv50) mixed tok.1 tok.2 (envCons k64 (envCons k52 (envCons k62 (envNil)))) (fn := Try.f50) (c := c50) (by kernel_rfl) (by kernel_rfl) (by kernel_rfl) ll50 (fun a => congrFun e50 a)
/-! ### slices.Equal[[]string,string] -/
noncomputable def c23 : Code := Try.f23.body.getD .skip
noncomputable def env23 : Env := mkEnv []
abbrev ps23 : List PSh := [.d (.sl .s), .d (.sl .s)]
abbrev D23 : Type := pairD (.ty .b) (osOf ps23)
def ns23_0 : NS := { slots := [(0, .ty (.sl .s)), (1, .ty (.sl .s)), (12, .ty (.i .i64)), (13, .ty (.i .i64))], roots := [] }
def ex23_0 : List (Nat × NS) := [(0, { slots := [], roots := [] })]
noncomputable def st23_0 (ih : ((List (List UInt8) × List (List UInt8) × Int × Int) × (Unit)) → Option (((Unit) × (Unit)) ⊕ Bool)) : ((List (List UInt8) × List (List UInt8) × Int × Int) × (Unit)) → Option (((Unit) × (Unit)) ⊕ Bool) := fun ((t0, t1, t12, t13), ()) =>
  cond (decide (t13 < t12))
    (cond (decide (0 ≤ t13) && decide (t13 < (↑t0.length : Int)))
      (cond (decide (0 ≤ t13) && decide (t13 < (↑t1.length : Int)))
        (cond (!t0.getD t13.toNat [] == t1.getD t13.toNat [])
          (some (Sum.inr false))
          (ih ((t0, t1, t12, IntKind.i64.wrap (t13 + 1)), ())))
        (none))
      (none))
    (some (Sum.inl ((), ())))
noncomputable def h23_0 : ((List (List UInt8) × List (List UInt8) × Int × Int) × (Unit)) → Option (((Unit) × (Unit)) ⊕ Bool) := loopN st23_0 fuel
noncomputable def l23_0 : LI D23 := ⟨ns23_0, ex23_0, h23_0⟩
noncomputable def lv23 : Nat → Option (LI D23) := fun q => if q = 4 then some l23_0 else (fun _ => none) q
noncomputable def g23 (a0 : List (List UInt8)) (a1 : List (List UInt8)) : Option (Bool) :=
  cond ((↑a0.length : Int) != (↑a1.length : Int))
    (some (false))
    (Option.bind (h23_0 ((a0, a1, (↑a0.length : Int), 0), ())) fun v1 =>
    match v1 with
    | .inl x2 =>
      some (true)
    | .inr x2 =>
      some (x2))
noncomputable def i23 : FI := ⟨ps23, .ty .b, fun (a0, a1) => g23 a0 a1⟩
theorem s23_0 : st23_0 = stepEval T Y env23 an lv23 (finO T true ps23 (.ty .b) Try.f23.results.toList) (loopAt c23 0) ns23_0 ex23_0 := by kernel_rfl
theorem e23 : (fun a => i23.G a) = fnEval T Y env23 an i23.ps i23.rs true Try.f23.results.toList lv23 c23 := by kernel_rfl
theorem lo23 : loopsOf c23 = [loopAt c23 0] := by kernel_rfl
theorem ll23 : LoopsOk T Y env23 an lv23 (finO T true ps23 (.ty .b) Try.f23.results.toList) c23 := loopsOk_of (by rw [lo23]; exact ⟨loop1 (li := l23_0) (by kernel_rfl) (by kernel_rfl) s23_0, trivial⟩)
theorem k23 : FnOk Try.prog 23 i23 :=
  fn_ok (T := T) (Y := Y) (an := an) (env := env23) (fr := true) (lenv := lv23) mixed tok.1 tok.2 (envNil) (fn := Try.f23) (c := c23) (by kernel_rfl) (by kernel_rfl) (by kernel_rfl) ll23 (fun a => congrFun e23 a)
/-! ### slices.Equal[[]broker/api.Command,broker/api.Command] -/
noncomputable def c18 : Code := Try.f18.body.getD .skip
noncomputable def env18 : Env := mkEnv []
abbrev ps18 : List PSh := [.d (.sl (.st (.pr (.i .i64) .s))), .d (.sl (.st (.pr (.i .i64) .s)))]
abbrev D18 : Type := pairD (.ty .b) (osOf ps18)
def ns18_0 : NS := { slots := [(0, .ty (.sl (.st (.pr (.i .i64) .s)))), (1, .ty (.sl (.st (.pr (.i .i64) .s)))), (12, .ty (.i .i64)), (13, .ty (.i .i64))], roots := [] }
def ex18_0 : List (Nat × NS) := [(0, { slots := [], roots := [] })]
noncomputable def st18_0 (ih : (((List (Int × List UInt8)) × (List (Int × List UInt8)) × Int × Int) × (Unit)) → Option (((Unit) × (Unit)) ⊕ Bool)) : (((List (Int × List UInt8)) × (List (Int × List UInt8)) × Int × Int) × (Unit)) → Option (((Unit) × (Unit)) ⊕ Bool) := fun ((t0, t1, t12, t13), ()) =>
  cond (decide (t13 < t12))
    (cond (decide (0 ≤ t13) && decide (t13 < (↑t0.length : Int)))
      (cond (decide (0 ≤ t13) && decide (t13 < (↑t1.length : Int)))
        (cond (!((t0.getD t13.toNat (0, [])).1 == (t1.getD t13.toNat (0, [])).1 && ((t0.getD t13.toNat (0, [])).2 == (t1.getD t13.toNat (0, [])).2 && true)))
          (some (Sum.inr false))
          (ih ((t0, t1, t12, IntKind.i64.wrap (t13 + 1)), ())))
        (none))
      (none))
    (some (Sum.inl ((), ())))
noncomputable def h18_0 : (((List (Int × List UInt8)) × (List (Int × List UInt8)) × Int × Int) × (Unit)) → Option (((Unit) × (Unit)) ⊕ Bool) := loopN st18_0 fuel
noncomputable def l18_0 : LI D18 := ⟨ns18_0, ex18_0, h18_0⟩
noncomputable def lv18 : Nat → Option (LI D18) := fun q => if q = 4 then some l18_0 else (fun _ => none) q
noncomputable def g18 (a0 : List (Int × List UInt8)) (a1 : List (Int × List UInt8)) : Option (Bool) :=
  cond ((↑a0.length : Int) != (↑a1.length : Int))
    (some (false))
    (Option.bind (h18_0 ((a0, a1, (↑a0.length : Int), 0), ())) fun v1 =>
    match v1 with
    | .inl x2 =>
      some (true)
    | .inr x2 =>
      some (x2))
noncomputable def i18 : FI := ⟨ps18, .ty .b, fun (a0, a1) => g18 a0 a1⟩
theorem s18_0 : st18_0 = stepEval T Y env18 an lv18 (finO T true ps18 (.ty .b) Try.f18.results.toList) (loopAt c18 0) ns18_0 ex18_0 := by kernel_rfl
theorem e18 : (fun a => i18.G a) = fnEval T Y env18 an i18.ps i18.rs true Try.f18.results.toList lv18 c18 := by kernel_rfl
theorem lo18 : loopsOf c18 = [loopAt c18 0] := by kernel_rfl
theorem ll18 : LoopsOk T Y env18 an lv18 (finO T true ps18 (.ty .b) Try.f18.results.toList) c18 := loopsOk_of (by rw [lo18]; exact ⟨loop1 (li := l18_0) (by kernel_rfl) (by kernel_rfl) s18_0, trivial⟩)
theorem k18 : FnOk Try.prog 18 i18 :=
  fn_ok (T := T) (Y := Y) (an := an) (env := env18) (fr := true) (lenv := lv18) mixed tok.1 tok.2 (envNil) (fn := Try.f18) (c := c18) (by kernel_rfl) (by kernel_rfl) (by kernel_rfl) ll18 (fun a => congrFun e18 a)
end Go.Proofs.Ytfadalgikdffeaa.EVT
