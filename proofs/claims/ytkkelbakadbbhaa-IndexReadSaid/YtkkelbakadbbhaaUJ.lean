/- What functions compute, as printed (U, part J). -/
import Derived.Test.YtkkelbakadbbhaaUI
set_option linter.unusedVariables false
set_option maxRecDepth 100000
set_option maxHeartbeats 0
namespace Go.Proofs.Ytkkelbakadbbhaa.EVT
open Go Go.EV
/-! ### broker/brokerlaw33.IndexBuilds -/
noncomputable def c9 : Code := Try.f9.body.getD .skip
noncomputable def env9 : Env := mkEnv [(32, i32), (33, i33), (35, i35), (36, i36), (34, i34), (37, i37), (38, i38)]
abbrev ps9 : List PSh := [.d (.st (.pr (.i .i64) (.pr (.i .i64) (.sl .u8)))), .d (.i .i64), .d (.sl (.st (.pr (.i .i64) (.i .i64))))]
abbrev D9 : Type := pairD (.ty .b) (osOf ps9)
noncomputable def lv9 : Nat → Option (LI D9) := fun _ => none
noncomputable def g9 (a0_0 : Int) (a0_1 : Int) (a0_2 : List UInt8) (a1 : Int) (a2 : List (Int × Int)) : Option (Bool) :=
  Option.bind (g32 a0_0 a0_1 a0_2 a2) fun v1 =>
  cond (!v1)
    (Option.bind (g33) fun v2 =>
    some (v2))
    (Option.bind (g35 a0_0 a0_1 a0_2 a1) fun v3 =>
    Option.bind (g36 a0_0 a0_1 a0_2 a1) fun v4 =>
    Option.bind (g34 v3 v4) fun v5 =>
    cond (v5)
      (Option.bind (g37 a0_0 a0_1 a0_2 a2) fun v6 =>
      Option.bind (g38 a0_0 a0_1 a0_2 a2) fun v7 =>
      cond (v6 == v7)
        (Option.bind (g33) fun v8 =>
        some (v8))
        (some (false)))
      (some (false)))
noncomputable def i9 : FI := ⟨ps9, .ty .b, fun ((a0_0, a0_1, a0_2), a1, a2) => g9 a0_0 a0_1 a0_2 a1 a2⟩
theorem e9 : (fun a => i9.G a) = fnEval T Y env9 an i9.ps i9.rs true Try.f9.results.toList lv9 c9 := by kernel_rfl
theorem lo9 : loopsOf c9 = [] := by kernel_rfl
theorem ll9 : LoopsOk T Y env9 an lv9 (finO T true ps9 (.ty .b) Try.f9.results.toList) c9 := loopsOk_of (by rw [lo9]; exact trivial)
theorem k9 : FnOk Try.prog 9 i9 :=
  fn_ok (T := T) (Y := Y) (an := an) (env := env9) (fr := true) (lenv := lv9) mixed tok.1 tok.2 (envCons k32 (envCons k33 (envCons k35 (envCons k36 (envCons k34 (envCons k37 (envCons k38 (envNil)))))))) (fn := Try.f9) (c := c9) (by kernel_rfl) (by kernel_rfl) (by kernel_rfl) ll9 (fun a => congrFun e9 a)
/-! ### broker/brokerlaw33.IndexFinds -/
noncomputable def c10 : Code := Try.f10.body.getD .skip
noncomputable def env10 : Env := mkEnv [(39, i39), (33, i33), (40, i40), (41, i41)]
abbrev ps10 : List PSh := [.d (.sl (.st (.pr (.i .i64) (.i .i64)))), .d (.i .i64)]
abbrev D10 : Type := pairD (.ty .b) (osOf ps10)
noncomputable def lv10 : Nat → Option (LI D10) := fun _ => none
noncomputable def g10 (a0 : List (Int × Int)) (a1 : Int) : Option (Bool) :=
  cond (decide ((↑a0.length : Int) > 60))
    (Option.bind (g33) fun v1 =>
    some (v1))
    (Option.bind (g39 a0) fun v2 =>
    cond (!v2)
      (Option.bind (g33) fun v3 =>
      some (v3))
      (Option.bind (g40 a0 a1) fun v4 =>
      Option.bind (g41 a0 a1) fun v5 =>
      cond (v4.1.1 == v5.1.1 && (v4.1.2 == v5.1.2 && true))
        (cond (v4.2 == v5.2)
          (Option.bind (g33) fun v6 =>
          some (v6))
          (some (false)))
        (some (false))))
noncomputable def i10 : FI := ⟨ps10, .ty .b, fun (a0, a1) => g10 a0 a1⟩
theorem e10 : (fun a => i10.G a) = fnEval T Y env10 an i10.ps i10.rs true Try.f10.results.toList lv10 c10 := by kernel_rfl
theorem lo10 : loopsOf c10 = [] := by kernel_rfl
theorem ll10 : LoopsOk T Y env10 an lv10 (finO T true ps10 (.ty .b) Try.f10.results.toList) c10 := loopsOk_of (by rw [lo10]; exact trivial)
theorem k10 : FnOk Try.prog 10 i10 :=
  fn_ok (T := T) (Y := Y) (an := an) (env := env10) (fr := true) (lenv := lv10) mixed tok.1 tok.2 (envCons k39 (envCons k33 (envCons k40 (envCons k41 (envNil))))) (fn := Try.f10) (c := c10) (by kernel_rfl) (by kernel_rfl) (by kernel_rfl) ll10 (fun a => congrFun e10 a)
/-! ### broker/brokerlaw33.IndexReads -/
noncomputable def c11 : Code := Try.f11.body.getD .skip
noncomputable def env11 : Env := mkEnv [(32, i32), (38, i38), (33, i33), (43, i43), (44, i44), (42, i42), (45, i45), (46, i46)]
abbrev ps11 : List PSh := [.d (.st (.pr (.i .i64) (.pr (.i .i64) (.sl .u8)))), .d (.sl (.st (.pr (.i .i64) (.i .i64)))), .d (.st (.pr (.i .i64) (.i .i64)))]
abbrev D11 : Type := pairD (.ty .b) (osOf ps11)
noncomputable def lv11 : Nat → Option (LI D11) := fun _ => none
noncomputable def g11 (a0_0 : Int) (a0_1 : Int) (a0_2 : List UInt8) (a1 : List (Int × Int)) (a2_0 : Int) (a2_1 : Int) : Option (Bool) :=
  Option.bind (g32 a0_0 a0_1 a0_2 a1) fun v1 =>
  cond (!v1)
    (Option.bind (g33) fun v2 =>
    some (v2))
    (Option.bind (g38 a0_0 a0_1 a0_2 a1) fun v3 =>
    cond (!v3)
      (Option.bind (g33) fun v4 =>
      some (v4))
      (Option.bind (g43 a0_0 a0_1 a0_2 a1 a2_0 a2_1) fun v5 =>
      Option.bind (g44 a0_0 a0_1 a0_2 a1 a2_0 a2_1) fun v6 =>
      Option.bind (g42 v5 v6) fun v7 =>
      cond (v7)
        (Option.bind (g45 a0_0 a0_1 a0_2 a1 a2_0) fun v8 =>
        Option.bind (g46 a0_0 a0_1 a0_2 a1 a2_0) fun v9 =>
        cond (v8 == v9)
          (Option.bind (g33) fun v10 =>
          some (v10))
          (some (false)))
        (some (false))))
noncomputable def i11 : FI := ⟨ps11, .ty .b, fun ((a0_0, a0_1, a0_2), a1, (a2_0, a2_1)) => g11 a0_0 a0_1 a0_2 a1 a2_0 a2_1⟩
theorem e11 : (fun a => i11.G a) = fnEval T Y env11 an i11.ps i11.rs true Try.f11.results.toList lv11 c11 := by kernel_rfl
theorem lo11 : loopsOf c11 = [] := by kernel_rfl
theorem ll11 : LoopsOk T Y env11 an lv11 (finO T true ps11 (.ty .b) Try.f11.results.toList) c11 := loopsOk_of (by rw [lo11]; exact trivial)
theorem k11 : FnOk Try.prog 11 i11 :=
  fn_ok (T := T) (Y := Y) (an := an) (env := env11) (fr := true) (lenv := lv11) mixed tok.1 tok.2 (envCons k32 (envCons k38 (envCons k33 (envCons k43 (envCons k44 (envCons k42 (envCons k45 (envCons k46 (envNil))))))))) (fn := Try.f11) (c := c11) (by kernel_rfl) (by kernel_rfl) (by kernel_rfl) ll11 (fun a => congrFun e11 a)
/-! ### broker/brokerlaw33.IndexBuilt -/
noncomputable def c12 : Code := Try.f12.body.getD .skip
noncomputable def env12 : Env := mkEnv [(32, i32), (33, i33), (35, i35), (45, i45), (37, i37)]
abbrev ps12 : List PSh := [.d (.st (.pr (.i .i64) (.pr (.i .i64) (.sl .u8)))), .d (.i .i64), .d (.i .i64)]
abbrev D12 : Type := pairD (.ty .b) (osOf ps12)
noncomputable def lv12 : Nat → Option (LI D12) := fun _ => none
noncomputable def g12 (a0_0 : Int) (a0_1 : Int) (a0_2 : List UInt8) (a1 : Int) (a2 : Int) : Option (Bool) :=
  Option.bind (g32 a0_0 a0_1 a0_2 []) fun v1 =>
  cond (!v1)
    (Option.bind (g33) fun v2 =>
    some (v2))
    (Option.bind (g35 a0_0 a0_1 a0_2 a1) fun v3 =>
    Option.bind (g45 a0_0 a0_1 a0_2 v3 a2) fun v4 =>
    cond (decide (a1 < 1))
      (cond (decide (a2 ≥ a0_0))
        (Option.bind (g37 a0_0 a0_1 a0_2 v3) fun v5 =>
        cond (v5)
          (cond (decide (v4 ≥ 0))
            (cond (decide (v4 ≤ 1))
              (cond (decide (v4 > 0) == decide (a2 < a0_1))
                (Option.bind (g33) fun v6 =>
                some (v6))
                (some (false)))
              (some (false)))
            (some (false)))
          (some (false)))
        (Option.bind (g37 a0_0 a0_1 a0_2 v3) fun v7 =>
        cond (v7)
          (cond (decide (v4 ≥ 0))
            (cond (decide (v4 ≤ 1))
              (cond (decide (v4 > 0) == false)
                (Option.bind (g33) fun v8 =>
                some (v8))
                (some (false)))
              (some (false)))
            (some (false)))
          (some (false))))
      (cond (decide (a2 ≥ a0_0))
        (Option.bind (g37 a0_0 a0_1 a0_2 v3) fun v9 =>
        cond (v9)
          (cond (decide (v4 ≥ 0))
            (cond (decide (v4 ≤ a1))
              (cond (decide (v4 > 0) == decide (a2 < a0_1))
                (Option.bind (g33) fun v10 =>
                some (v10))
                (some (false)))
              (some (false)))
            (some (false)))
          (some (false)))
        (Option.bind (g37 a0_0 a0_1 a0_2 v3) fun v11 =>
        cond (v11)
          (cond (decide (v4 ≥ 0))
            (cond (decide (v4 ≤ a1))
              (cond (decide (v4 > 0) == false)
                (Option.bind (g33) fun v12 =>
                some (v12))
                (some (false)))
              (some (false)))
            (some (false)))
          (some (false)))))
noncomputable def i12 : FI := ⟨ps12, .ty .b, fun ((a0_0, a0_1, a0_2), a1, a2) => g12 a0_0 a0_1 a0_2 a1 a2⟩
theorem e12 : (fun a => i12.G a) = fnEval T Y env12 an i12.ps i12.rs true Try.f12.results.toList lv12 c12 := by kernel_rfl
theorem lo12 : loopsOf c12 = [] := by kernel_rfl
theorem ll12 : LoopsOk T Y env12 an lv12 (finO T true ps12 (.ty .b) Try.f12.results.toList) c12 := loopsOk_of (by rw [lo12]; exact trivial)
theorem k12 : FnOk Try.prog 12 i12 :=
  fn_ok (T := T) (Y := Y) (an := an) (env := env12) (fr := true) (lenv := lv12) mixed tok.1 tok.2 (envCons k32 (envCons k33 (envCons k35 (envCons k45 (envCons k37 (envNil)))))) (fn := Try.f12) (c := c12) (by kernel_rfl) (by kernel_rfl) (by kernel_rfl) ll12 (fun a => congrFun e12 a)
/-! ### broker/brokerlaw33.IndexRead -/
noncomputable def c13 : Code := Try.f13.body.getD .skip
noncomputable def env13 : Env := mkEnv [(32, i32), (33, i33), (35, i35), (43, i43), (42, i42)]
abbrev ps13 : List PSh := [.d (.st (.pr (.i .i64) (.pr (.i .i64) (.sl .u8)))), .d (.i .i64), .d (.st (.pr (.i .i64) (.i .i64)))]
abbrev D13 : Type := pairD (.ty .b) (osOf ps13)
def ns13_0 : NS := { slots := [(3, .pt 3 []), (5, .pt 5 []), (7, .ty (.sl (.st (.pr (.i .i64) (.pr (.i .i64) (.pr .s .s)))))), (9, .ty (.i .i64)), (10, .ty (.i .i64))], roots := [(5, .ty (.st (.pr (.i .i64) (.i .i64)))), (3, .ty (.st (.pr (.i .i64) (.pr (.i .i64) (.sl .u8)))))] }
def ex13_0 : List (Nat × NS) := [(0, { slots := [(3, .pt 3 []), (5, .pt 5 []), (7, .ty (.sl (.st (.pr (.i .i64) (.pr (.i .i64) (.pr .s .s)))))), (9, .ty (.i .i64))], roots := [(5, .ty (.st (.pr (.i .i64) (.i .i64)))), (3, .ty (.st (.pr (.i .i64) (.pr (.i .i64) (.sl .u8)))))] })]
noncomputable def st13_0 (ih : (((List (Int × Int × List UInt8 × List UInt8)) × Int × Int) × ((Int × Int) × Int × Int × List UInt8)) → Option ((((List (Int × Int × List UInt8 × List UInt8)) × Int) × ((Int × Int) × Int × Int × List UInt8)) ⊕ Bool)) : (((List (Int × Int × List UInt8 × List UInt8)) × Int × Int) × ((Int × Int) × Int × Int × List UInt8)) → Option ((((List (Int × Int × List UInt8 × List UInt8)) × Int) × ((Int × Int) × Int × Int × List UInt8)) ⊕ Bool) := fun ((t7, t9, t10), ((r5_0, r5_1), (r3_0, r3_1, r3_2))) =>
  cond (decide (t10 < (↑t7.length : Int)))
    (cond (decide (0 ≤ t10) && decide (t10 < (↑t7.length : Int)))
      (cond ((t7.getD t10.toNat (0, 0, [], [])).1 != IntKind.i64.wrap (t9 + t10))
        (some (Sum.inr false))
        (ih ((t7, t9, IntKind.i64.wrap (t10 + 1)), (r5_0, r5_1), r3_0, r3_1, r3_2)))
      (none))
    (some (Sum.inl ((t7, t9), (r5_0, r5_1), r3_0, r3_1, r3_2)))
noncomputable def h13_0 : (((List (Int × Int × List UInt8 × List UInt8)) × Int × Int) × ((Int × Int) × Int × Int × List UInt8)) → Option ((((List (Int × Int × List UInt8 × List UInt8)) × Int) × ((Int × Int) × Int × Int × List UInt8)) ⊕ Bool) := loopN st13_0 fuel
noncomputable def l13_0 : LI D13 := ⟨ns13_0, ex13_0, h13_0⟩
noncomputable def lv13 : Nat → Option (LI D13) := fun q => if q = 11 then some l13_0 else (fun _ => none) q
noncomputable def g13 (a0_0 : Int) (a0_1 : Int) (a0_2 : List UInt8) (a1 : Int) (a2_0 : Int) (a2_1 : Int) : Option (Bool) :=
  Option.bind (g32 a0_0 a0_1 a0_2 []) fun v1 =>
  cond (!v1)
    (Option.bind (g33) fun v2 =>
    some (v2))
    (Option.bind (g35 a0_0 a0_1 a0_2 a1) fun v3 =>
    Option.bind (g43 a0_0 a0_1 a0_2 v3 a2_0 a2_1) fun v4 =>
    Option.bind (g43 a0_0 a0_1 a0_2 [] a2_0 a2_1) fun v5 =>
    Option.bind (g42 v4 v5) fun v6 =>
    cond (!v6)
      (some (false))
      (cond (decide (a2_1 ≥ 0))
        (cond (decide ((↑(List.length v4) : Int) > a2_1))
          (some (false))
          (cond (decide (a2_1 < 0))
            (cond (decide ((↑(List.length v4) : Int) > 0))
              (some (false))
              (cond (decide (a2_0 < a0_0))
                (Option.bind (h13_0 ((v4, a0_0, 0), (a2_0, a2_1), a0_0, a0_1, a0_2)) fun v7 =>
                match v7 with
                | .inl x8 =>
                  cond ((↑(List.length x8.1.1) : Int) == x8.2.1.2)
                    (Option.bind (g33) fun v9 =>
                    some (v9))
                    (cond (decide (x8.2.1.2 < 0))
                      (Option.bind (g33) fun v10 =>
                      some (v10))
                      (cond (decide (x8.1.2 ≥ x8.2.2.2.1))
                        (cond ((↑(List.length x8.1.1) : Int) == 0)
                          (Option.bind (g33) fun v11 =>
                          some (v11))
                          (cond (decide (x8.1.2 < x8.2.2.2.1))
                            (cond (IntKind.i64.wrap (x8.1.2 + (↑(List.length x8.1.1) : Int)) == x8.2.2.2.1)
                              (Option.bind (g33) fun v12 =>
                              some (v12))
                              (some (false)))
                            (some (false))))
                        (cond (decide (x8.1.2 < x8.2.2.2.1))
                          (cond (IntKind.i64.wrap (x8.1.2 + (↑(List.length x8.1.1) : Int)) == x8.2.2.2.1)
                            (Option.bind (g33) fun v13 =>
                            some (v13))
                            (some (false)))
                          (some (false)))))
                | .inr x8 =>
                  some (x8))
                (Option.bind (h13_0 ((v4, a2_0, 0), (a2_0, a2_1), a0_0, a0_1, a0_2)) fun v14 =>
                match v14 with
                | .inl x15 =>
                  cond ((↑(List.length x15.1.1) : Int) == x15.2.1.2)
                    (Option.bind (g33) fun v16 =>
                    some (v16))
                    (cond (decide (x15.2.1.2 < 0))
                      (Option.bind (g33) fun v17 =>
                      some (v17))
                      (cond (decide (x15.1.2 ≥ x15.2.2.2.1))
                        (cond ((↑(List.length x15.1.1) : Int) == 0)
                          (Option.bind (g33) fun v18 =>
                          some (v18))
                          (cond (decide (x15.1.2 < x15.2.2.2.1))
                            (cond (IntKind.i64.wrap (x15.1.2 + (↑(List.length x15.1.1) : Int)) == x15.2.2.2.1)
                              (Option.bind (g33) fun v19 =>
                              some (v19))
                              (some (false)))
                            (some (false))))
                        (cond (decide (x15.1.2 < x15.2.2.2.1))
                          (cond (IntKind.i64.wrap (x15.1.2 + (↑(List.length x15.1.1) : Int)) == x15.2.2.2.1)
                            (Option.bind (g33) fun v20 =>
                            some (v20))
                            (some (false)))
                          (some (false)))))
                | .inr x15 =>
                  some (x15))))
            (cond (decide (a2_0 < a0_0))
              (Option.bind (h13_0 ((v4, a0_0, 0), (a2_0, a2_1), a0_0, a0_1, a0_2)) fun v21 =>
              match v21 with
              | .inl x22 =>
                cond ((↑(List.length x22.1.1) : Int) == x22.2.1.2)
                  (Option.bind (g33) fun v23 =>
                  some (v23))
                  (cond (decide (x22.2.1.2 < 0))
                    (Option.bind (g33) fun v24 =>
                    some (v24))
                    (cond (decide (x22.1.2 ≥ x22.2.2.2.1))
                      (cond ((↑(List.length x22.1.1) : Int) == 0)
                        (Option.bind (g33) fun v25 =>
                        some (v25))
                        (cond (decide (x22.1.2 < x22.2.2.2.1))
                          (cond (IntKind.i64.wrap (x22.1.2 + (↑(List.length x22.1.1) : Int)) == x22.2.2.2.1)
                            (Option.bind (g33) fun v26 =>
                            some (v26))
                            (some (false)))
                          (some (false))))
                      (cond (decide (x22.1.2 < x22.2.2.2.1))
                        (cond (IntKind.i64.wrap (x22.1.2 + (↑(List.length x22.1.1) : Int)) == x22.2.2.2.1)
                          (Option.bind (g33) fun v27 =>
                          some (v27))
                          (some (false)))
                        (some (false)))))
              | .inr x22 =>
                some (x22))
              (Option.bind (h13_0 ((v4, a2_0, 0), (a2_0, a2_1), a0_0, a0_1, a0_2)) fun v28 =>
              match v28 with
              | .inl x29 =>
                cond ((↑(List.length x29.1.1) : Int) == x29.2.1.2)
                  (Option.bind (g33) fun v30 =>
                  some (v30))
                  (cond (decide (x29.2.1.2 < 0))
                    (Option.bind (g33) fun v31 =>
                    some (v31))
                    (cond (decide (x29.1.2 ≥ x29.2.2.2.1))
                      (cond ((↑(List.length x29.1.1) : Int) == 0)
                        (Option.bind (g33) fun v32 =>
                        some (v32))
                        (cond (decide (x29.1.2 < x29.2.2.2.1))
                          (cond (IntKind.i64.wrap (x29.1.2 + (↑(List.length x29.1.1) : Int)) == x29.2.2.2.1)
                            (Option.bind (g33) fun v33 =>
                            some (v33))
                            (some (false)))
                          (some (false))))
                      (cond (decide (x29.1.2 < x29.2.2.2.1))
                        (cond (IntKind.i64.wrap (x29.1.2 + (↑(List.length x29.1.1) : Int)) == x29.2.2.2.1)
                          (Option.bind (g33) fun v34 =>
                          some (v34))
                          (some (false)))
                        (some (false)))))
              | .inr x29 =>
                some (x29)))))
        (cond (decide (a2_1 < 0))
          (cond (decide ((↑(List.length v4) : Int) > 0))
            (some (false))
            (cond (decide (a2_0 < a0_0))
              (Option.bind (h13_0 ((v4, a0_0, 0), (a2_0, a2_1), a0_0, a0_1, a0_2)) fun v35 =>
              match v35 with
              | .inl x36 =>
                cond ((↑(List.length x36.1.1) : Int) == x36.2.1.2)
                  (Option.bind (g33) fun v37 =>
                  some (v37))
                  (cond (decide (x36.2.1.2 < 0))
                    (Option.bind (g33) fun v38 =>
                    some (v38))
                    (cond (decide (x36.1.2 ≥ x36.2.2.2.1))
                      (cond ((↑(List.length x36.1.1) : Int) == 0)
                        (Option.bind (g33) fun v39 =>
                        some (v39))
                        (cond (decide (x36.1.2 < x36.2.2.2.1))
                          (cond (IntKind.i64.wrap (x36.1.2 + (↑(List.length x36.1.1) : Int)) == x36.2.2.2.1)
                            (Option.bind (g33) fun v40 =>
                            some (v40))
                            (some (false)))
                          (some (false))))
                      (cond (decide (x36.1.2 < x36.2.2.2.1))
                        (cond (IntKind.i64.wrap (x36.1.2 + (↑(List.length x36.1.1) : Int)) == x36.2.2.2.1)
                          (Option.bind (g33) fun v41 =>
                          some (v41))
                          (some (false)))
                        (some (false)))))
              | .inr x36 =>
                some (x36))
              (Option.bind (h13_0 ((v4, a2_0, 0), (a2_0, a2_1), a0_0, a0_1, a0_2)) fun v42 =>
              match v42 with
              | .inl x43 =>
                cond ((↑(List.length x43.1.1) : Int) == x43.2.1.2)
                  (Option.bind (g33) fun v44 =>
                  some (v44))
                  (cond (decide (x43.2.1.2 < 0))
                    (Option.bind (g33) fun v45 =>
                    some (v45))
                    (cond (decide (x43.1.2 ≥ x43.2.2.2.1))
                      (cond ((↑(List.length x43.1.1) : Int) == 0)
                        (Option.bind (g33) fun v46 =>
                        some (v46))
                        (cond (decide (x43.1.2 < x43.2.2.2.1))
                          (cond (IntKind.i64.wrap (x43.1.2 + (↑(List.length x43.1.1) : Int)) == x43.2.2.2.1)
                            (Option.bind (g33) fun v47 =>
                            some (v47))
                            (some (false)))
                          (some (false))))
                      (cond (decide (x43.1.2 < x43.2.2.2.1))
                        (cond (IntKind.i64.wrap (x43.1.2 + (↑(List.length x43.1.1) : Int)) == x43.2.2.2.1)
                          (Option.bind (g33) fun v48 =>
                          some (v48))
                          (some (false)))
                        (some (false)))))
              | .inr x43 =>
                some (x43))))
          (cond (decide (a2_0 < a0_0))
            (Option.bind (h13_0 ((v4, a0_0, 0), (a2_0, a2_1), a0_0, a0_1, a0_2)) fun v49 =>
            match v49 with
            | .inl x50 =>
              cond ((↑(List.length x50.1.1) : Int) == x50.2.1.2)
                (Option.bind (g33) fun v51 =>
                some (v51))
                (cond (decide (x50.2.1.2 < 0))
                  (Option.bind (g33) fun v52 =>
                  some (v52))
                  (cond (decide (x50.1.2 ≥ x50.2.2.2.1))
                    (cond ((↑(List.length x50.1.1) : Int) == 0)
                      (Option.bind (g33) fun v53 =>
                      some (v53))
                      (cond (decide (x50.1.2 < x50.2.2.2.1))
                        (cond (IntKind.i64.wrap (x50.1.2 + (↑(List.length x50.1.1) : Int)) == x50.2.2.2.1)
                          (Option.bind (g33) fun v54 =>
                          some (v54))
                          (some (false)))
                        (some (false))))
                    (cond (decide (x50.1.2 < x50.2.2.2.1))
                      (cond (IntKind.i64.wrap (x50.1.2 + (↑(List.length x50.1.1) : Int)) == x50.2.2.2.1)
                        (Option.bind (g33) fun v55 =>
                        some (v55))
                        (some (false)))
                      (some (false)))))
            | .inr x50 =>
              some (x50))
            (Option.bind (h13_0 ((v4, a2_0, 0), (a2_0, a2_1), a0_0, a0_1, a0_2)) fun v56 =>
            match v56 with
            | .inl x57 =>
              cond ((↑(List.length x57.1.1) : Int) == x57.2.1.2)
                (Option.bind (g33) fun v58 =>
                some (v58))
                (cond (decide (x57.2.1.2 < 0))
                  (Option.bind (g33) fun v59 =>
                  some (v59))
                  (cond (decide (x57.1.2 ≥ x57.2.2.2.1))
                    (cond ((↑(List.length x57.1.1) : Int) == 0)
                      (Option.bind (g33) fun v60 =>
                      some (v60))
                      (cond (decide (x57.1.2 < x57.2.2.2.1))
                        (cond (IntKind.i64.wrap (x57.1.2 + (↑(List.length x57.1.1) : Int)) == x57.2.2.2.1)
                          (Option.bind (g33) fun v61 =>
                          some (v61))
                          (some (false)))
                        (some (false))))
                    (cond (decide (x57.1.2 < x57.2.2.2.1))
                      (cond (IntKind.i64.wrap (x57.1.2 + (↑(List.length x57.1.1) : Int)) == x57.2.2.2.1)
                        (Option.bind (g33) fun v62 =>
                        some (v62))
                        (some (false)))
                      (some (false)))))
            | .inr x57 =>
              some (x57))))))
noncomputable def i13 : FI := ⟨ps13, .ty .b, fun ((a0_0, a0_1, a0_2), a1, (a2_0, a2_1)) => g13 a0_0 a0_1 a0_2 a1 a2_0 a2_1⟩
theorem s13_0 : st13_0 = stepEval T Y env13 an lv13 (finO T true ps13 (.ty .b) Try.f13.results.toList) (loopAt c13 0) ns13_0 ex13_0 := by kernel_rfl
theorem e13 : (fun a => i13.G a) = fnEval T Y env13 an i13.ps i13.rs true Try.f13.results.toList lv13 c13 := by kernel_rfl
theorem lo13 : loopsOf c13 = [loopAt c13 0] := by kernel_rfl
theorem ll13 : LoopsOk T Y env13 an lv13 (finO T true ps13 (.ty .b) Try.f13.results.toList) c13 := loopsOk_of (by rw [lo13]; exact ⟨loop1 (li := l13_0) (by kernel_rfl) (by kernel_rfl) s13_0, trivial⟩)
theorem k13 : FnOk Try.prog 13 i13 :=
  fn_ok (T := T) (Y := Y) (an := an) (env := env13) (fr := true) (lenv := lv13) mixed tok.1 tok.2 (envCons k32 (envCons k33 (envCons k35 (envCons k43 (envCons k42 (envNil)))))) (fn := Try.f13) (c := c13) (by kernel_rfl) (by kernel_rfl) (by kernel_rfl) ll13 (fun a => congrFun e13 a)
end Go.Proofs.Ytkkelbakadbbhaa.EVT
