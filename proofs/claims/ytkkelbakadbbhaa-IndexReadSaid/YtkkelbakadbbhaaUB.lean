/- What functions compute, as printed (U, part B). -/
import Derived.Test.YtkkelbakadbbhaaUA
set_option linter.unusedVariables false
set_option maxRecDepth 100000
set_option maxHeartbeats 0
namespace Go.Proofs.Ytkkelbakadbbhaa.EVT
open Go Go.EV
/-! ### broker/record.Check -/
noncomputable def c22 : Code := Try.f22.body.getD .skip
noncomputable def env22 : Env := mkEnv []
abbrev ps22 : List PSh := [.d (.st (.pr (.i .i64) (.pr (.i .i64) (.pr .s .s))))]
abbrev D22 : Type := pairD (.ty (.i .i64)) (osOf ps22)
noncomputable def lv22 : Nat → Option (LI D22) := fun _ => none
noncomputable def g22 (a0_0 : Int) (a0_1 : Int) (a0_2 : List UInt8) (a0_3 : List UInt8) : Option (Int) :=
  cond (decide (a0_0 < 0))
    (some (1))
    (cond (decide (a0_0 > 1099511627776))
      (some (1))
      (cond (a0_1 != 1)
        (cond (a0_1 != 2)
          (cond (a0_1 != 3)
            (some (10))
            (cond (a0_2 == [])
              (some (1))
              (cond (decide ((↑a0_2.length : Int) > 64))
                (some (5))
                (cond (decide ((↑a0_3.length : Int) > 4096))
                  (some (5))
                  (cond (a0_1 != 1)
                    (cond (!a0_3 == [])
                      (some (28))
                      (some (0)))
                    (some (0)))))))
          (cond (a0_2 == [])
            (some (1))
            (cond (decide ((↑a0_2.length : Int) > 64))
              (some (5))
              (cond (decide ((↑a0_3.length : Int) > 4096))
                (some (5))
                (cond (a0_1 != 1)
                  (cond (!a0_3 == [])
                    (some (28))
                    (some (0)))
                  (some (0)))))))
        (cond (a0_2 == [])
          (some (1))
          (cond (decide ((↑a0_2.length : Int) > 64))
            (some (5))
            (cond (decide ((↑a0_3.length : Int) > 4096))
              (some (5))
              (cond (a0_1 != 1)
                (cond (!a0_3 == [])
                  (some (28))
                  (some (0)))
                (some (0))))))))
noncomputable def i22 : FI := ⟨ps22, .ty (.i .i64), fun (a0_0, a0_1, a0_2, a0_3) => g22 a0_0 a0_1 a0_2 a0_3⟩
theorem e22 : (fun a => i22.G a) = fnEval T Y env22 an i22.ps i22.rs true Try.f22.results.toList lv22 c22 := by kernel_rfl
theorem lo22 : loopsOf c22 = [] := by kernel_rfl
theorem ll22 : LoopsOk T Y env22 an lv22 (finO T true ps22 (.ty (.i .i64)) Try.f22.results.toList) c22 := loopsOk_of (by rw [lo22]; exact trivial)
theorem k22 : FnOk Try.prog 22 i22 :=
  fn_ok (T := T) (Y := Y) (an := an) (env := env22) (fr := true) (lenv := lv22) mixed tok.1 tok.2 (envNil) (fn := Try.f22) (c := c22) (by kernel_rfl) (by kernel_rfl) (by kernel_rfl) ll22 (fun a => congrFun e22 a)
/-! ### broker/record.Encode -/
noncomputable def c25 : Code := Try.f25.body.getD .skip
noncomputable def env25 : Env := mkEnv [(22, i22), (64, i64), (66, i66), (65, i65)]
abbrev ps25 : List PSh := [.d (.st (.pr (.i .i64) (.pr (.i .i64) (.pr .s .s))))]
abbrev D25 : Type := pairD (.tup (.pr (.ty (.sl .u8)) (.ty (.i .i64)))) (osOf ps25)
noncomputable def lv25 : Nat → Option (LI D25) := fun _ => none
noncomputable def g25 (a0_0 : Int) (a0_1 : Int) (a0_2 : List UInt8) (a0_3 : List UInt8) : Option (List UInt8 × Int) :=
  Option.bind (g22 a0_0 a0_1 a0_2 a0_3) fun v1 =>
  cond (v1 != 0)
    (some (([], v1)))
    (Option.bind (g64 [] a0_0) fun v2 =>
    Option.bind (g64 v2 a0_1) fun v3 =>
    Option.bind (g66 v3 a0_2) fun v4 =>
    Option.bind (g66 v4 a0_3) fun v5 =>
    Option.bind (g65 v5) fun v6 =>
    cond (decide (0 ≤ (↑(List.length v6) : Int)) && decide ((↑(List.length v6) : Int) ≤ (↑(List.length v6) : Int)) && decide ((↑(List.length v6) : Int) ≤ 2147483647))
      (cond (decide (0 + (List.replicate (↑(List.length v6) : Int).toNat (UInt8.ofNat (Int.toNat 0))).length ≤ (List.replicate (↑(List.length v6) : Int).toNat (UInt8.ofNat (Int.toNat 0))).length))
        (some ((List.take 0 (List.replicate (↑(List.length v6) : Int).toNat (UInt8.ofNat (Int.toNat 0))) ++ (List.take (List.replicate (↑(List.length v6) : Int).toNat (UInt8.ofNat (Int.toNat 0))).length v6 ++ List.drop (0 + (List.take (List.replicate (↑(List.length v6) : Int).toNat (UInt8.ofNat (Int.toNat 0))).length v6).length) (List.replicate (↑(List.length v6) : Int).toNat (UInt8.ofNat (Int.toNat 0)))), 0)))
        (none))
      (none))
noncomputable def i25 : FI := ⟨ps25, .tup (.pr (.ty (.sl .u8)) (.ty (.i .i64))), fun (a0_0, a0_1, a0_2, a0_3) => g25 a0_0 a0_1 a0_2 a0_3⟩
theorem e25 : (fun a => i25.G a) = fnEval T Y env25 an i25.ps i25.rs true Try.f25.results.toList lv25 c25 := by kernel_rfl
theorem lo25 : loopsOf c25 = [] := by kernel_rfl
theorem ll25 : LoopsOk T Y env25 an lv25 (finO T true ps25 (.tup (.pr (.ty (.sl .u8)) (.ty (.i .i64)))) Try.f25.results.toList) c25 := loopsOk_of (by rw [lo25]; exact trivial)
theorem k25 : FnOk Try.prog 25 i25 :=
  fn_ok (T := T) (Y := Y) (an := an) (env := env25) (fr := true) (lenv := lv25) mixed tok.1 tok.2 (envCons k22 (envCons k64 (envCons k66 (envCons k65 (envNil))))) (fn := Try.f25) (c := c25) (by kernel_rfl) (by kernel_rfl) (by kernel_rfl) ll25 (fun a => congrFun e25 a)
/-! ### broker/record.Decode -/
noncomputable def c29 : Code := Try.f29.body.getD .skip
noncomputable def env29 : Env := mkEnv [(70, i70), (71, i71), (72, i72), (22, i22)]
abbrev ps29 : List PSh := [.d (.sl .u8), .d (.i .i64)]
abbrev D29 : Type := pairD (.tup (.pr (.ty (.st (.pr (.i .i64) (.pr (.i .i64) (.pr .s .s))))) (.pr (.ty (.i .i64)) (.ty (.i .i64))))) (osOf ps29)
noncomputable def lv29 : Nat → Option (LI D29) := fun _ => none
noncomputable def g29 (a0 : List UInt8) (a1 : Int) : Option ((Int × Int × List UInt8 × List UInt8) × Int × Int) :=
  Option.bind (g70 a0 a1) fun v1 =>
  cond (v1.2.2 != 0)
    (some (((0, 0, [], []), 0, v1.2.2)))
    (Option.bind (g71 v1.1 0) fun v2 =>
    cond (v2.2.2 != 0)
      (some (((0, 0, [], []), 0, v2.2.2)))
      (Option.bind (g71 v1.1 v2.2.1) fun v3 =>
      cond (v3.2.2 != 0)
        (some (((0, 0, [], []), 0, v3.2.2)))
        (Option.bind (g72 v1.1 v3.2.1 64) fun v4 =>
        cond (v4.2.2 != 0)
          (some (((0, 0, [], []), 0, v4.2.2)))
          (Option.bind (g72 v1.1 v4.2.1 4096) fun v5 =>
          cond (v5.2.2 != 0)
            (some (((0, 0, [], []), 0, v5.2.2)))
            (cond (decide (v5.2.1 < (↑(List.length v1.1) : Int)))
              (some (((0, 0, [], []), 0, 2)))
              (Option.bind (g22 v2.1 v3.1 v4.1 v5.1) fun v6 =>
              cond (v6 != 0)
                (some (((0, 0, [], []), 0, v6)))
                (some (((v2.1, v3.1, v4.1, v5.1), v1.2.1, 0)))))))))
noncomputable def i29 : FI := ⟨ps29, .tup (.pr (.ty (.st (.pr (.i .i64) (.pr (.i .i64) (.pr .s .s))))) (.pr (.ty (.i .i64)) (.ty (.i .i64)))), fun (a0, a1) => g29 a0 a1⟩
theorem e29 : (fun a => i29.G a) = fnEval T Y env29 an i29.ps i29.rs true Try.f29.results.toList lv29 c29 := by kernel_rfl
theorem lo29 : loopsOf c29 = [] := by kernel_rfl
theorem ll29 : LoopsOk T Y env29 an lv29 (finO T true ps29 (.tup (.pr (.ty (.st (.pr (.i .i64) (.pr (.i .i64) (.pr .s .s))))) (.pr (.ty (.i .i64)) (.ty (.i .i64))))) Try.f29.results.toList) c29 := loopsOk_of (by rw [lo29]; exact trivial)
theorem k29 : FnOk Try.prog 29 i29 :=
  fn_ok (T := T) (Y := Y) (an := an) (env := env29) (fr := true) (lenv := lv29) mixed tok.1 tok.2 (envCons k70 (envCons k71 (envCons k72 (envCons k22 (envNil))))) (fn := Try.f29) (c := c29) (by kernel_rfl) (by kernel_rfl) (by kernel_rfl) ll29 (fun a => congrFun e29 a)
/-! ### broker/record.Size -/
noncomputable def c28 : Code := Try.f28.body.getD .skip
noncomputable def env28 : Env := mkEnv [(25, i25)]
abbrev ps28 : List PSh := [.d (.st (.pr (.i .i64) (.pr (.i .i64) (.pr .s .s))))]
abbrev D28 : Type := pairD (.ty (.i .i64)) (osOf ps28)
noncomputable def lv28 : Nat → Option (LI D28) := fun _ => none
noncomputable def g28 (a0_0 : Int) (a0_1 : Int) (a0_2 : List UInt8) (a0_3 : List UInt8) : Option (Int) :=
  Option.bind (g25 a0_0 a0_1 a0_2 a0_3) fun v1 =>
  some ((↑(List.length v1.1) : Int))
noncomputable def i28 : FI := ⟨ps28, .ty (.i .i64), fun (a0_0, a0_1, a0_2, a0_3) => g28 a0_0 a0_1 a0_2 a0_3⟩
theorem e28 : (fun a => i28.G a) = fnEval T Y env28 an i28.ps i28.rs true Try.f28.results.toList lv28 c28 := by kernel_rfl
theorem lo28 : loopsOf c28 = [] := by kernel_rfl
theorem ll28 : LoopsOk T Y env28 an lv28 (finO T true ps28 (.ty (.i .i64)) Try.f28.results.toList) c28 := loopsOk_of (by rw [lo28]; exact trivial)
theorem k28 : FnOk Try.prog 28 i28 :=
  fn_ok (T := T) (Y := Y) (an := an) (env := env28) (fr := true) (lenv := lv28) mixed tok.1 tok.2 (envCons k25 (envNil)) (fn := Try.f28) (c := c28) (by kernel_rfl) (by kernel_rfl) (by kernel_rfl) ll28 (fun a => congrFun e28 a)
/-! ### broker/brokerref31.Check -/
noncomputable def c23 : Code := Try.f23.body.getD .skip
noncomputable def env23 : Env := mkEnv []
abbrev ps23 : List PSh := [.d (.st (.pr (.i .i64) (.pr (.i .i64) (.pr .s .s))))]
abbrev D23 : Type := pairD (.ty (.i .i64)) (osOf ps23)
noncomputable def lv23 : Nat → Option (LI D23) := fun _ => none
noncomputable def g23 (a0_0 : Int) (a0_1 : Int) (a0_2 : List UInt8) (a0_3 : List UInt8) : Option (Int) :=
  cond (decide (a0_0 < 0))
    (some (1))
    (cond (decide (a0_0 > 1099511627776))
      (some (1))
      (cond (decide (a0_1 < 1))
        (some (10))
        (cond (decide (a0_1 > 3))
          (some (10))
          (cond (a0_2 == [])
            (some (1))
            (cond (decide ((↑a0_2.length : Int) > 64))
              (some (5))
              (cond (decide ((↑a0_3.length : Int) > 4096))
                (some (5))
                (cond (a0_1 != 1)
                  (cond (!a0_3 == [])
                    (some (28))
                    (some (0)))
                  (some (0)))))))))
noncomputable def i23 : FI := ⟨ps23, .ty (.i .i64), fun (a0_0, a0_1, a0_2, a0_3) => g23 a0_0 a0_1 a0_2 a0_3⟩
theorem e23 : (fun a => i23.G a) = fnEval T Y env23 an i23.ps i23.rs true Try.f23.results.toList lv23 c23 := by kernel_rfl
theorem lo23 : loopsOf c23 = [] := by kernel_rfl
theorem ll23 : LoopsOk T Y env23 an lv23 (finO T true ps23 (.ty (.i .i64)) Try.f23.results.toList) c23 := loopsOk_of (by rw [lo23]; exact trivial)
theorem k23 : FnOk Try.prog 23 i23 :=
  fn_ok (T := T) (Y := Y) (an := an) (env := env23) (fr := true) (lenv := lv23) mixed tok.1 tok.2 (envNil) (fn := Try.f23) (c := c23) (by kernel_rfl) (by kernel_rfl) (by kernel_rfl) ll23 (fun a => congrFun e23 a)
/-! ### broker/brokerref31.Encode -/
noncomputable def c26 : Code := Try.f26.body.getD .skip
noncomputable def env26 : Env := mkEnv [(23, i23), (67, i67), (68, i68), (69, i69)]
abbrev ps26 : List PSh := [.d (.st (.pr (.i .i64) (.pr (.i .i64) (.pr .s .s))))]
abbrev D26 : Type := pairD (.tup (.pr (.ty (.sl .u8)) (.ty (.i .i64)))) (osOf ps26)
noncomputable def lv26 : Nat → Option (LI D26) := fun _ => none
noncomputable def g26 (a0_0 : Int) (a0_1 : Int) (a0_2 : List UInt8) (a0_3 : List UInt8) : Option (List UInt8 × Int) :=
  Option.bind (g23 a0_0 a0_1 a0_2 a0_3) fun v1 =>
  cond (v1 != 0)
    (some (([], v1)))
    (Option.bind (g67 [] a0_0) fun v2 =>
    Option.bind (g67 v2 a0_1) fun v3 =>
    Option.bind (g68 v3 a0_2) fun v4 =>
    Option.bind (g68 v4 a0_3) fun v5 =>
    Option.bind (g69 v5) fun v6 =>
    some ((v6, 0)))
noncomputable def i26 : FI := ⟨ps26, .tup (.pr (.ty (.sl .u8)) (.ty (.i .i64))), fun (a0_0, a0_1, a0_2, a0_3) => g26 a0_0 a0_1 a0_2 a0_3⟩
theorem e26 : (fun a => i26.G a) = fnEval T Y env26 an i26.ps i26.rs true Try.f26.results.toList lv26 c26 := by kernel_rfl
theorem lo26 : loopsOf c26 = [] := by kernel_rfl
theorem ll26 : LoopsOk T Y env26 an lv26 (finO T true ps26 (.tup (.pr (.ty (.sl .u8)) (.ty (.i .i64)))) Try.f26.results.toList) c26 := loopsOk_of (by rw [lo26]; exact trivial)
theorem k26 : FnOk Try.prog 26 i26 :=
  fn_ok (T := T) (Y := Y) (an := an) (env := env26) (fr := true) (lenv := lv26) mixed tok.1 tok.2 (envCons k23 (envCons k67 (envCons k68 (envCons k69 (envNil))))) (fn := Try.f26) (c := c26) (by kernel_rfl) (by kernel_rfl) (by kernel_rfl) ll26 (fun a => congrFun e26 a)
/-! ### broker/brokerref31.Size -/
noncomputable def c63 : Code := Try.f63.body.getD .skip
noncomputable def env63 : Env := mkEnv [(26, i26)]
abbrev ps63 : List PSh := [.d (.st (.pr (.i .i64) (.pr (.i .i64) (.pr .s .s))))]
abbrev D63 : Type := pairD (.ty (.i .i64)) (osOf ps63)
noncomputable def lv63 : Nat → Option (LI D63) := fun _ => none
noncomputable def g63 (a0_0 : Int) (a0_1 : Int) (a0_2 : List UInt8) (a0_3 : List UInt8) : Option (Int) :=
  Option.bind (g26 a0_0 a0_1 a0_2 a0_3) fun v1 =>
  some ((↑(List.length v1.1) : Int))
noncomputable def i63 : FI := ⟨ps63, .ty (.i .i64), fun (a0_0, a0_1, a0_2, a0_3) => g63 a0_0 a0_1 a0_2 a0_3⟩
theorem e63 : (fun a => i63.G a) = fnEval T Y env63 an i63.ps i63.rs true Try.f63.results.toList lv63 c63 := by kernel_rfl
theorem lo63 : loopsOf c63 = [] := by kernel_rfl
theorem ll63 : LoopsOk T Y env63 an lv63 (finO T true ps63 (.ty (.i .i64)) Try.f63.results.toList) c63 := loopsOk_of (by rw [lo63]; exact trivial)
theorem k63 : FnOk Try.prog 63 i63 :=
  fn_ok (T := T) (Y := Y) (an := an) (env := env63) (fr := true) (lenv := lv63) mixed tok.1 tok.2 (envCons k26 (envNil)) (fn := Try.f63) (c := c63) (by kernel_rfl) (by kernel_rfl) (by kernel_rfl) ll63 (fun a => congrFun e63 a)
/-! ### (*broker/brokerref05.Reader).Num -/
noncomputable def c74 : Code := Try.f74.body.getD .skip
noncomputable def env74 : Env := mkEnv [(86, i86)]
abbrev ps74 : List PSh := [.io (.ob (.ag (.pr (.ty (.sl .u8)) (.pr (.ty (.i .i64)) (.ty (.i .i64)))))) (.ob (.ag (.pr (.ty (.sl .u8)) (.pr (.ty (.i .i64)) (.ty (.i .i64))))))]
abbrev D74 : Type := pairD (.ty (.i .i64)) (osOf ps74)
noncomputable def lv74 : Nat → Option (LI D74) := fun _ => none
noncomputable def g74 (a0_0 : List UInt8) (a0_1 : Int) (a0_2 : Int) : Option (Int × List UInt8 × Int × Int) :=
  cond (a0_2 != 0)
    (some ((0, a0_0, a0_1, a0_2)))
    (Option.bind (g86 a0_0 a0_1) fun v1 =>
    cond (v1.2.2 != 0)
      (some ((0, a0_0, a0_1, v1.2.2)))
      (some ((v1.1, a0_0, v1.2.1, a0_2))))
noncomputable def i74 : FI := ⟨ps74, .ty (.i .i64), fun (a0_0, a0_1, a0_2) => g74 a0_0 a0_1 a0_2⟩
theorem e74 : (fun a => i74.G a) = fnEval T Y env74 an i74.ps i74.rs true Try.f74.results.toList lv74 c74 := by kernel_rfl
theorem lo74 : loopsOf c74 = [] := by kernel_rfl
theorem ll74 : LoopsOk T Y env74 an lv74 (finO T true ps74 (.ty (.i .i64)) Try.f74.results.toList) c74 := loopsOk_of (by rw [lo74]; exact trivial)
theorem k74 : FnOk Try.prog 74 i74 :=
  fn_ok (T := T) (Y := Y) (an := an) (env := env74) (fr := true) (lenv := lv74) mixed tok.1 tok.2 (envCons k86 (envNil)) (fn := Try.f74) (c := c74) (by kernel_rfl) (by kernel_rfl) (by kernel_rfl) ll74 (fun a => congrFun e74 a)
/-! ### (*broker/brokerref05.Reader).Text -/
noncomputable def c75 : Code := Try.f75.body.getD .skip
noncomputable def env75 : Env := mkEnv [(87, i87)]
abbrev ps75 : List PSh := [.io (.ob (.ag (.pr (.ty (.sl .u8)) (.pr (.ty (.i .i64)) (.ty (.i .i64)))))) (.ob (.ag (.pr (.ty (.sl .u8)) (.pr (.ty (.i .i64)) (.ty (.i .i64)))))), .d (.i .i64)]
abbrev D75 : Type := pairD (.ty .s) (osOf ps75)
noncomputable def lv75 : Nat → Option (LI D75) := fun _ => none
noncomputable def g75 (a0_0 : List UInt8) (a0_1 : Int) (a0_2 : Int) (a1 : Int) : Option (List UInt8 × List UInt8 × Int × Int) :=
  cond (a0_2 != 0)
    (some (([], a0_0, a0_1, a0_2)))
    (Option.bind (g87 a0_0 a0_1 a1) fun v1 =>
    cond (v1.2.2 != 0)
      (some (([], a0_0, a0_1, v1.2.2)))
      (some ((v1.1, a0_0, v1.2.1, a0_2))))
noncomputable def i75 : FI := ⟨ps75, .ty .s, fun ((a0_0, a0_1, a0_2), a1) => g75 a0_0 a0_1 a0_2 a1⟩
theorem e75 : (fun a => i75.G a) = fnEval T Y env75 an i75.ps i75.rs true Try.f75.results.toList lv75 c75 := by kernel_rfl
theorem lo75 : loopsOf c75 = [] := by kernel_rfl
theorem ll75 : LoopsOk T Y env75 an lv75 (finO T true ps75 (.ty .s) Try.f75.results.toList) c75 := loopsOk_of (by rw [lo75]; exact trivial)
theorem k75 : FnOk Try.prog 75 i75 :=
  fn_ok (T := T) (Y := Y) (an := an) (env := env75) (fr := true) (lenv := lv75) mixed tok.1 tok.2 (envCons k87 (envNil)) (fn := Try.f75) (c := c75) (by kernel_rfl) (by kernel_rfl) (by kernel_rfl) ll75 (fun a => congrFun e75 a)
/-! ### broker/brokerref31.Decode -/
noncomputable def c30 : Code := Try.f30.body.getD .skip
noncomputable def env30 : Env := mkEnv [(73, i73), (74, i74), (75, i75), (23, i23)]
abbrev ps30 : List PSh := [.d (.sl .u8), .d (.i .i64)]
abbrev D30 : Type := pairD (.tup (.pr (.ty (.st (.pr (.i .i64) (.pr (.i .i64) (.pr .s .s))))) (.pr (.ty (.i .i64)) (.ty (.i .i64))))) (osOf ps30)
noncomputable def lv30 : Nat → Option (LI D30) := fun _ => none
noncomputable def g30 (a0 : List UInt8) (a1 : Int) : Option ((Int × Int × List UInt8 × List UInt8) × Int × Int) :=
  Option.bind (g73 a0 a1) fun v1 =>
  cond (v1.2.2 != 0)
    (some (((0, 0, [], []), 0, v1.2.2)))
    (Option.bind (g74 v1.1 0 0) fun v2 =>
    Option.bind (g74 v2.2.1 v2.2.2.1 v2.2.2.2) fun v3 =>
    Option.bind (g75 v3.2.1 v3.2.2.1 v3.2.2.2 64) fun v4 =>
    Option.bind (g75 v4.2.1 v4.2.2.1 v4.2.2.2 4096) fun v5 =>
    cond (v5.2.2.2 == 0)
      (cond (decide (v5.2.2.1 < (↑(List.length v1.1) : Int)))
        (some (((0, 0, [], []), 0, 2)))
        (cond (v5.2.2.2 == 0)
          (Option.bind (g23 v2.1 v3.1 v4.1 v5.1) fun v6 =>
          cond (v6 != 0)
            (some (((0, 0, [], []), 0, v6)))
            (some (((v2.1, v3.1, v4.1, v5.1), v1.2.1, 0))))
          (cond (v5.2.2.2 != 0)
            (some (((0, 0, [], []), 0, v5.2.2.2)))
            (some (((v2.1, v3.1, v4.1, v5.1), v1.2.1, 0))))))
      (cond (v5.2.2.2 == 0)
        (Option.bind (g23 v2.1 v3.1 v4.1 v5.1) fun v7 =>
        cond (v7 != 0)
          (some (((0, 0, [], []), 0, v7)))
          (some (((v2.1, v3.1, v4.1, v5.1), v1.2.1, 0))))
        (cond (v5.2.2.2 != 0)
          (some (((0, 0, [], []), 0, v5.2.2.2)))
          (some (((v2.1, v3.1, v4.1, v5.1), v1.2.1, 0))))))
noncomputable def i30 : FI := ⟨ps30, .tup (.pr (.ty (.st (.pr (.i .i64) (.pr (.i .i64) (.pr .s .s))))) (.pr (.ty (.i .i64)) (.ty (.i .i64)))), fun (a0, a1) => g30 a0 a1⟩
theorem e30 : (fun a => i30.G a) = fnEval T Y env30 an i30.ps i30.rs true Try.f30.results.toList lv30 c30 := by kernel_rfl
theorem lo30 : loopsOf c30 = [] := by kernel_rfl
theorem ll30 : LoopsOk T Y env30 an lv30 (finO T true ps30 (.tup (.pr (.ty (.st (.pr (.i .i64) (.pr (.i .i64) (.pr .s .s))))) (.pr (.ty (.i .i64)) (.ty (.i .i64))))) Try.f30.results.toList) c30 := loopsOk_of (by rw [lo30]; exact trivial)
theorem k30 : FnOk Try.prog 30 i30 :=
  fn_ok (T := T) (Y := Y) (an := an) (env := env30) (fr := true) (lenv := lv30) mixed tok.1 tok.2 (envCons k73 (envCons k74 (envCons k75 (envCons k23 (envNil))))) (fn := Try.f30) (c := c30) (by kernel_rfl) (by kernel_rfl) (by kernel_rfl) ll30 (fun a => congrFun e30 a)
/-! ### broker/brokerref31.Same -/
noncomputable def c42 : Code := Try.f42.body.getD .skip
noncomputable def env42 : Env := mkEnv []
abbrev ps42 : List PSh := [.d (.sl (.st (.pr (.i .i64) (.pr (.i .i64) (.pr .s .s))))), .d (.sl (.st (.pr (.i .i64) (.pr (.i .i64) (.pr .s .s)))))]
abbrev D42 : Type := pairD (.ty .b) (osOf ps42)
def ns42_0 : NS := { slots := [(0, .ty (.sl (.st (.pr (.i .i64) (.pr (.i .i64) (.pr .s .s)))))), (1, .ty (.sl (.st (.pr (.i .i64) (.pr (.i .i64) (.pr .s .s)))))), (5, .ty (.i .i64))], roots := [] }
def ex42_0 : List (Nat × NS) := [(0, { slots := [], roots := [] })]
noncomputable def st42_0 (ih : (((List (Int × Int × List UInt8 × List UInt8)) × (List (Int × Int × List UInt8 × List UInt8)) × Int) × (Unit)) → Option (((Unit) × (Unit)) ⊕ Bool)) : (((List (Int × Int × List UInt8 × List UInt8)) × (List (Int × Int × List UInt8 × List UInt8)) × Int) × (Unit)) → Option (((Unit) × (Unit)) ⊕ Bool) := fun ((t0, t1, t5), ()) =>
  cond (decide (t5 < (↑t0.length : Int)))
    (cond (decide (0 ≤ t5) && decide (t5 < (↑t0.length : Int)))
      (cond (decide (0 ≤ t5) && decide (t5 < (↑t1.length : Int)))
        (cond (!((t0.getD t5.toNat (0, 0, [], [])).1 == (t1.getD t5.toNat (0, 0, [], [])).1 && ((t0.getD t5.toNat (0, 0, [], [])).2.1 == (t1.getD t5.toNat (0, 0, [], [])).2.1 && ((t0.getD t5.toNat (0, 0, [], [])).2.2.1 == (t1.getD t5.toNat (0, 0, [], [])).2.2.1 && ((t0.getD t5.toNat (0, 0, [], [])).2.2.2 == (t1.getD t5.toNat (0, 0, [], [])).2.2.2 && true)))))
          (some (Sum.inr false))
          (ih ((t0, t1, IntKind.i64.wrap (t5 + 1)), ())))
        (none))
      (none))
    (some (Sum.inl ((), ())))
noncomputable def h42_0 : (((List (Int × Int × List UInt8 × List UInt8)) × (List (Int × Int × List UInt8 × List UInt8)) × Int) × (Unit)) → Option (((Unit) × (Unit)) ⊕ Bool) := loopN st42_0 fuel
noncomputable def l42_0 : LI D42 := ⟨ns42_0, ex42_0, h42_0⟩
noncomputable def lv42 : Nat → Option (LI D42) := fun q => if q = 4 then some l42_0 else (fun _ => none) q
noncomputable def g42 (a0 : List (Int × Int × List UInt8 × List UInt8)) (a1 : List (Int × Int × List UInt8 × List UInt8)) : Option (Bool) :=
  cond ((↑a0.length : Int) != (↑a1.length : Int))
    (some (false))
    (Option.bind (h42_0 ((a0, a1, 0), ())) fun v1 =>
    match v1 with
    | .inl x2 =>
      some (true)
    | .inr x2 =>
      some (x2))
noncomputable def i42 : FI := ⟨ps42, .ty .b, fun (a0, a1) => g42 a0 a1⟩
theorem s42_0 : st42_0 = stepEval T Y env42 an lv42 (finO T true ps42 (.ty .b) Try.f42.results.toList) (loopAt c42 0) ns42_0 ex42_0 := by kernel_rfl
theorem e42 : (fun a => i42.G a) = fnEval T Y env42 an i42.ps i42.rs true Try.f42.results.toList lv42 c42 := by kernel_rfl
theorem lo42 : loopsOf c42 = [loopAt c42 0] := by kernel_rfl
theorem ll42 : LoopsOk T Y env42 an lv42 (finO T true ps42 (.ty .b) Try.f42.results.toList) c42 := loopsOk_of (by rw [lo42]; exact ⟨loop1 (li := l42_0) (by kernel_rfl) (by kernel_rfl) s42_0, trivial⟩)
theorem k42 : FnOk Try.prog 42 i42 :=
  fn_ok (T := T) (Y := Y) (an := an) (env := env42) (fr := true) (lenv := lv42) mixed tok.1 tok.2 (envNil) (fn := Try.f42) (c := c42) (by kernel_rfl) (by kernel_rfl) (by kernel_rfl) ll42 (fun a => congrFun e42 a)
end Go.Proofs.Ytkkelbakadbbhaa.EVT
