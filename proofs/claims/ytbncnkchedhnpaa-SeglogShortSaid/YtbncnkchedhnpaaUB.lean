/- What functions compute, as printed (U, part B). -/
import Derived.Test.YtbncnkchedhnpaaUA
set_option linter.unusedVariables false
set_option maxRecDepth 100000
set_option maxHeartbeats 0
namespace Go.Proofs.Ytbncnkchedhnpaa.EVT
open Go Go.EV
/-! ### broker/record.Check -/
noncomputable def c28 : Code := Try.f28.body.getD .skip
noncomputable def env28 : Env := mkEnv []
abbrev ps28 : List PSh := [.d (.st (.pr (.i .i64) (.pr (.i .i64) (.pr .s .s))))]
abbrev D28 : Type := pairD (.ty (.i .i64)) (osOf ps28)
noncomputable def lv28 : Nat → Option (LI D28) := fun _ => none
noncomputable def g28 (a0_0 : Int) (a0_1 : Int) (a0_2 : List UInt8) (a0_3 : List UInt8) : Option (Int) :=
  cond (decide (a0_0 < 0))
    (some (1))
    (cond (decide (a0_0 > 1099511627776))
      (some (1))
      (cond (a0_1 != 1)
        (cond (a0_1 != 2)
          (cond (a0_1 != 3)
            (some (10))
            (cond (a0_2 == [])
              (some (1))
              (cond (decide ((↑a0_2.length : Int) > 64))
                (some (5))
                (cond (decide ((↑a0_3.length : Int) > 4096))
                  (some (5))
                  (cond (a0_1 != 1)
                    (cond (!a0_3 == [])
                      (some (28))
                      (some (0)))
                    (some (0)))))))
          (cond (a0_2 == [])
            (some (1))
            (cond (decide ((↑a0_2.length : Int) > 64))
              (some (5))
              (cond (decide ((↑a0_3.length : Int) > 4096))
                (some (5))
                (cond (a0_1 != 1)
                  (cond (!a0_3 == [])
                    (some (28))
                    (some (0)))
                  (some (0)))))))
        (cond (a0_2 == [])
          (some (1))
          (cond (decide ((↑a0_2.length : Int) > 64))
            (some (5))
            (cond (decide ((↑a0_3.length : Int) > 4096))
              (some (5))
              (cond (a0_1 != 1)
                (cond (!a0_3 == [])
                  (some (28))
                  (some (0)))
                (some (0))))))))
noncomputable def i28 : FI := ⟨ps28, .ty (.i .i64), fun (a0_0, a0_1, a0_2, a0_3) => g28 a0_0 a0_1 a0_2 a0_3⟩
theorem e28 : (fun a => i28.G a) = fnEval T Y env28 an i28.ps i28.rs true Try.f28.results.toList lv28 c28 := by kernel_rfl
theorem lo28 : loopsOf c28 = [] := by kernel_rfl
theorem ll28 : LoopsOk T Y env28 an lv28 (finO T true ps28 (.ty (.i .i64)) Try.f28.results.toList) c28 := loopsOk_of (by rw [lo28]; exact trivial)
theorem k28 : FnOk Try.prog 28 i28 :=
  fn_ok (T := T) (Y := Y) (an := an) (env := env28) (fr := true) (lenv := lv28) mixed tok.1 tok.2 (envNil) (fn := Try.f28) (c := c28) (by kernel_rfl) (by kernel_rfl) (by kernel_rfl) ll28 (fun a => congrFun e28 a)
/-! ### broker/record.Encode -/
noncomputable def c47 : Code := Try.f47.body.getD .skip
noncomputable def env47 : Env := mkEnv [(28, i28), (61, i61), (63, i63), (62, i62)]
abbrev ps47 : List PSh := [.d (.st (.pr (.i .i64) (.pr (.i .i64) (.pr .s .s))))]
abbrev D47 : Type := pairD (.tup (.pr (.ty (.sl .u8)) (.ty (.i .i64)))) (osOf ps47)
noncomputable def lv47 : Nat → Option (LI D47) := fun _ => none
noncomputable def g47 (a0_0 : Int) (a0_1 : Int) (a0_2 : List UInt8) (a0_3 : List UInt8) : Option (List UInt8 × Int) :=
  Option.bind (g28 a0_0 a0_1 a0_2 a0_3) fun v1 =>
  cond (v1 != 0)
    (some (([], v1)))
    (Option.bind (g61 [] a0_0) fun v2 =>
    Option.bind (g61 v2 a0_1) fun v3 =>
    Option.bind (g63 v3 a0_2) fun v4 =>
    Option.bind (g63 v4 a0_3) fun v5 =>
    Option.bind (g62 v5) fun v6 =>
    cond (decide (0 ≤ (↑(List.length v6) : Int)) && decide ((↑(List.length v6) : Int) ≤ (↑(List.length v6) : Int)) && decide ((↑(List.length v6) : Int) ≤ 2147483647))
      (cond (decide (0 + (List.replicate (↑(List.length v6) : Int).toNat (UInt8.ofNat (Int.toNat 0))).length ≤ (List.replicate (↑(List.length v6) : Int).toNat (UInt8.ofNat (Int.toNat 0))).length))
        (some ((List.take 0 (List.replicate (↑(List.length v6) : Int).toNat (UInt8.ofNat (Int.toNat 0))) ++ (List.take (List.replicate (↑(List.length v6) : Int).toNat (UInt8.ofNat (Int.toNat 0))).length v6 ++ List.drop (0 + (List.take (List.replicate (↑(List.length v6) : Int).toNat (UInt8.ofNat (Int.toNat 0))).length v6).length) (List.replicate (↑(List.length v6) : Int).toNat (UInt8.ofNat (Int.toNat 0)))), 0)))
        (none))
      (none))
noncomputable def i47 : FI := ⟨ps47, .tup (.pr (.ty (.sl .u8)) (.ty (.i .i64))), fun (a0_0, a0_1, a0_2, a0_3) => g47 a0_0 a0_1 a0_2 a0_3⟩
theorem e47 : (fun a => i47.G a) = fnEval T Y env47 an i47.ps i47.rs true Try.f47.results.toList lv47 c47 := by kernel_rfl
theorem lo47 : loopsOf c47 = [] := by kernel_rfl
theorem ll47 : LoopsOk T Y env47 an lv47 (finO T true ps47 (.tup (.pr (.ty (.sl .u8)) (.ty (.i .i64)))) Try.f47.results.toList) c47 := loopsOk_of (by rw [lo47]; exact trivial)
theorem k47 : FnOk Try.prog 47 i47 :=
  fn_ok (T := T) (Y := Y) (an := an) (env := env47) (fr := true) (lenv := lv47) mixed tok.1 tok.2 (envCons k28 (envCons k61 (envCons k63 (envCons k62 (envNil))))) (fn := Try.f47) (c := c47) (by kernel_rfl) (by kernel_rfl) (by kernel_rfl) ll47 (fun a => congrFun e47 a)
/-! ### broker/record.Size -/
noncomputable def c30 : Code := Try.f30.body.getD .skip
noncomputable def env30 : Env := mkEnv [(47, i47)]
abbrev ps30 : List PSh := [.d (.st (.pr (.i .i64) (.pr (.i .i64) (.pr .s .s))))]
abbrev D30 : Type := pairD (.ty (.i .i64)) (osOf ps30)
noncomputable def lv30 : Nat → Option (LI D30) := fun _ => none
noncomputable def g30 (a0_0 : Int) (a0_1 : Int) (a0_2 : List UInt8) (a0_3 : List UInt8) : Option (Int) :=
  Option.bind (g47 a0_0 a0_1 a0_2 a0_3) fun v1 =>
  some ((↑(List.length v1.1) : Int))
noncomputable def i30 : FI := ⟨ps30, .ty (.i .i64), fun (a0_0, a0_1, a0_2, a0_3) => g30 a0_0 a0_1 a0_2 a0_3⟩
theorem e30 : (fun a => i30.G a) = fnEval T Y env30 an i30.ps i30.rs true Try.f30.results.toList lv30 c30 := by kernel_rfl
theorem lo30 : loopsOf c30 = [] := by kernel_rfl
theorem ll30 : LoopsOk T Y env30 an lv30 (finO T true ps30 (.ty (.i .i64)) Try.f30.results.toList) c30 := loopsOk_of (by rw [lo30]; exact trivial)
theorem k30 : FnOk Try.prog 30 i30 :=
  fn_ok (T := T) (Y := Y) (an := an) (env := env30) (fr := true) (lenv := lv30) mixed tok.1 tok.2 (envCons k47 (envNil)) (fn := Try.f30) (c := c30) (by kernel_rfl) (by kernel_rfl) (by kernel_rfl) ll30 (fun a => congrFun e30 a)
/-! ### broker/record.Decode -/
noncomputable def c50 : Code := Try.f50.body.getD .skip
noncomputable def env50 : Env := mkEnv [(64, i64), (65, i65), (66, i66), (28, i28)]
abbrev ps50 : List PSh := [.d (.sl .u8), .d (.i .i64)]
abbrev D50 : Type := pairD (.tup (.pr (.ty (.st (.pr (.i .i64) (.pr (.i .i64) (.pr .s .s))))) (.pr (.ty (.i .i64)) (.ty (.i .i64))))) (osOf ps50)
noncomputable def lv50 : Nat → Option (LI D50) := fun _ => none
noncomputable def g50 (a0 : List UInt8) (a1 : Int) : Option ((Int × Int × List UInt8 × List UInt8) × Int × Int) :=
  Option.bind (g64 a0 a1) fun v1 =>
  cond (v1.2.2 != 0)
    (some (((0, 0, [], []), 0, v1.2.2)))
    (Option.bind (g65 v1.1 0) fun v2 =>
    cond (v2.2.2 != 0)
      (some (((0, 0, [], []), 0, v2.2.2)))
      (Option.bind (g65 v1.1 v2.2.1) fun v3 =>
      cond (v3.2.2 != 0)
        (some (((0, 0, [], []), 0, v3.2.2)))
        (Option.bind (g66 v1.1 v3.2.1 64) fun v4 =>
        cond (v4.2.2 != 0)
          (some (((0, 0, [], []), 0, v4.2.2)))
          (Option.bind (g66 v1.1 v4.2.1 4096) fun v5 =>
          cond (v5.2.2 != 0)
            (some (((0, 0, [], []), 0, v5.2.2)))
            (cond (decide (v5.2.1 < (↑(List.length v1.1) : Int)))
              (some (((0, 0, [], []), 0, 2)))
              (Option.bind (g28 v2.1 v3.1 v4.1 v5.1) fun v6 =>
              cond (v6 != 0)
                (some (((0, 0, [], []), 0, v6)))
                (some (((v2.1, v3.1, v4.1, v5.1), v1.2.1, 0)))))))))
noncomputable def i50 : FI := ⟨ps50, .tup (.pr (.ty (.st (.pr (.i .i64) (.pr (.i .i64) (.pr .s .s))))) (.pr (.ty (.i .i64)) (.ty (.i .i64)))), fun (a0, a1) => g50 a0 a1⟩
theorem e50 : (fun a => i50.G a) = fnEval T Y env50 an i50.ps i50.rs true Try.f50.results.toList lv50 c50 := by kernel_rfl
theorem lo50 : loopsOf c50 = [] := by kernel_rfl
theorem ll50 : LoopsOk T Y env50 an lv50 (finO T true ps50 (.tup (.pr (.ty (.st (.pr (.i .i64) (.pr (.i .i64) (.pr .s .s))))) (.pr (.ty (.i .i64)) (.ty (.i .i64))))) Try.f50.results.toList) c50 := loopsOk_of (by rw [lo50]; exact trivial)
theorem k50 : FnOk Try.prog 50 i50 :=
  fn_ok (T := T) (Y := Y) (an := an) (env := env50) (fr := true) (lenv := lv50) mixed tok.1 tok.2 (envCons k64 (envCons k65 (envCons k66 (envCons k28 (envNil))))) (fn := Try.f50) (c := c50) (by kernel_rfl) (by kernel_rfl) (by kernel_rfl) ll50 (fun a => congrFun e50 a)
/-! ### broker/brokerref31.Check -/
noncomputable def c54 : Code := Try.f54.body.getD .skip
noncomputable def env54 : Env := mkEnv []
abbrev ps54 : List PSh := [.d (.st (.pr (.i .i64) (.pr (.i .i64) (.pr .s .s))))]
abbrev D54 : Type := pairD (.ty (.i .i64)) (osOf ps54)
noncomputable def lv54 : Nat → Option (LI D54) := fun _ => none
noncomputable def g54 (a0_0 : Int) (a0_1 : Int) (a0_2 : List UInt8) (a0_3 : List UInt8) : Option (Int) :=
  cond (decide (a0_0 < 0))
    (some (1))
    (cond (decide (a0_0 > 1099511627776))
      (some (1))
      (cond (decide (a0_1 < 1))
        (some (10))
        (cond (decide (a0_1 > 3))
          (some (10))
          (cond (a0_2 == [])
            (some (1))
            (cond (decide ((↑a0_2.length : Int) > 64))
              (some (5))
              (cond (decide ((↑a0_3.length : Int) > 4096))
                (some (5))
                (cond (a0_1 != 1)
                  (cond (!a0_3 == [])
                    (some (28))
                    (some (0)))
                  (some (0)))))))))
noncomputable def i54 : FI := ⟨ps54, .ty (.i .i64), fun (a0_0, a0_1, a0_2, a0_3) => g54 a0_0 a0_1 a0_2 a0_3⟩
theorem e54 : (fun a => i54.G a) = fnEval T Y env54 an i54.ps i54.rs true Try.f54.results.toList lv54 c54 := by kernel_rfl
theorem lo54 : loopsOf c54 = [] := by kernel_rfl
theorem ll54 : LoopsOk T Y env54 an lv54 (finO T true ps54 (.ty (.i .i64)) Try.f54.results.toList) c54 := loopsOk_of (by rw [lo54]; exact trivial)
theorem k54 : FnOk Try.prog 54 i54 :=
  fn_ok (T := T) (Y := Y) (an := an) (env := env54) (fr := true) (lenv := lv54) mixed tok.1 tok.2 (envNil) (fn := Try.f54) (c := c54) (by kernel_rfl) (by kernel_rfl) (by kernel_rfl) ll54 (fun a => congrFun e54 a)
/-! ### broker/brokerref31.Encode -/
noncomputable def c36 : Code := Try.f36.body.getD .skip
noncomputable def env36 : Env := mkEnv [(54, i54), (55, i55), (56, i56), (57, i57)]
abbrev ps36 : List PSh := [.d (.st (.pr (.i .i64) (.pr (.i .i64) (.pr .s .s))))]
abbrev D36 : Type := pairD (.tup (.pr (.ty (.sl .u8)) (.ty (.i .i64)))) (osOf ps36)
noncomputable def lv36 : Nat → Option (LI D36) := fun _ => none
noncomputable def g36 (a0_0 : Int) (a0_1 : Int) (a0_2 : List UInt8) (a0_3 : List UInt8) : Option (List UInt8 × Int) :=
  Option.bind (g54 a0_0 a0_1 a0_2 a0_3) fun v1 =>
  cond (v1 != 0)
    (some (([], v1)))
    (Option.bind (g55 [] a0_0) fun v2 =>
    Option.bind (g55 v2 a0_1) fun v3 =>
    Option.bind (g56 v3 a0_2) fun v4 =>
    Option.bind (g56 v4 a0_3) fun v5 =>
    Option.bind (g57 v5) fun v6 =>
    some ((v6, 0)))
noncomputable def i36 : FI := ⟨ps36, .tup (.pr (.ty (.sl .u8)) (.ty (.i .i64))), fun (a0_0, a0_1, a0_2, a0_3) => g36 a0_0 a0_1 a0_2 a0_3⟩
theorem e36 : (fun a => i36.G a) = fnEval T Y env36 an i36.ps i36.rs true Try.f36.results.toList lv36 c36 := by kernel_rfl
theorem lo36 : loopsOf c36 = [] := by kernel_rfl
theorem ll36 : LoopsOk T Y env36 an lv36 (finO T true ps36 (.tup (.pr (.ty (.sl .u8)) (.ty (.i .i64)))) Try.f36.results.toList) c36 := loopsOk_of (by rw [lo36]; exact trivial)
theorem k36 : FnOk Try.prog 36 i36 :=
  fn_ok (T := T) (Y := Y) (an := an) (env := env36) (fr := true) (lenv := lv36) mixed tok.1 tok.2 (envCons k54 (envCons k55 (envCons k56 (envCons k57 (envNil))))) (fn := Try.f36) (c := c36) (by kernel_rfl) (by kernel_rfl) (by kernel_rfl) ll36 (fun a => congrFun e36 a)
/-! ### broker/brokerref31.Size -/
noncomputable def c19 : Code := Try.f19.body.getD .skip
noncomputable def env19 : Env := mkEnv [(36, i36)]
abbrev ps19 : List PSh := [.d (.st (.pr (.i .i64) (.pr (.i .i64) (.pr .s .s))))]
abbrev D19 : Type := pairD (.ty (.i .i64)) (osOf ps19)
noncomputable def lv19 : Nat → Option (LI D19) := fun _ => none
noncomputable def g19 (a0_0 : Int) (a0_1 : Int) (a0_2 : List UInt8) (a0_3 : List UInt8) : Option (Int) :=
  Option.bind (g36 a0_0 a0_1 a0_2 a0_3) fun v1 =>
  some ((↑(List.length v1.1) : Int))
noncomputable def i19 : FI := ⟨ps19, .ty (.i .i64), fun (a0_0, a0_1, a0_2, a0_3) => g19 a0_0 a0_1 a0_2 a0_3⟩
theorem e19 : (fun a => i19.G a) = fnEval T Y env19 an i19.ps i19.rs true Try.f19.results.toList lv19 c19 := by kernel_rfl
theorem lo19 : loopsOf c19 = [] := by kernel_rfl
theorem ll19 : LoopsOk T Y env19 an lv19 (finO T true ps19 (.ty (.i .i64)) Try.f19.results.toList) c19 := loopsOk_of (by rw [lo19]; exact trivial)
theorem k19 : FnOk Try.prog 19 i19 :=
  fn_ok (T := T) (Y := Y) (an := an) (env := env19) (fr := true) (lenv := lv19) mixed tok.1 tok.2 (envCons k36 (envNil)) (fn := Try.f19) (c := c19) (by kernel_rfl) (by kernel_rfl) (by kernel_rfl) ll19 (fun a => congrFun e19 a)
/-! ### (*broker/brokerref05.Reader).Num -/
noncomputable def c52 : Code := Try.f52.body.getD .skip
noncomputable def env52 : Env := mkEnv [(68, i68)]
abbrev ps52 : List PSh := [.io (.ob (.ag (.pr (.ty (.sl .u8)) (.pr (.ty (.i .i64)) (.ty (.i .i64)))))) (.ob (.ag (.pr (.ty (.sl .u8)) (.pr (.ty (.i .i64)) (.ty (.i .i64))))))]
abbrev D52 : Type := pairD (.ty (.i .i64)) (osOf ps52)
noncomputable def lv52 : Nat → Option (LI D52) := fun _ => none
noncomputable def g52 (a0_0 : List UInt8) (a0_1 : Int) (a0_2 : Int) : Option (Int × List UInt8 × Int × Int) :=
  cond (a0_2 != 0)
    (some ((0, a0_0, a0_1, a0_2)))
    (Option.bind (g68 a0_0 a0_1) fun v1 =>
    cond (v1.2.2 != 0)
      (some ((0, a0_0, a0_1, v1.2.2)))
      (some ((v1.1, a0_0, v1.2.1, a0_2))))
noncomputable def i52 : FI := ⟨ps52, .ty (.i .i64), fun (a0_0, a0_1, a0_2) => g52 a0_0 a0_1 a0_2⟩
theorem e52 : (fun a => i52.G a) = fnEval T Y env52 an i52.ps i52.rs true Try.f52.results.toList lv52 c52 := by kernel_rfl
theorem lo52 : loopsOf c52 = [] := by kernel_rfl
theorem ll52 : LoopsOk T Y env52 an lv52 (finO T true ps52 (.ty (.i .i64)) Try.f52.results.toList) c52 := loopsOk_of (by rw [lo52]; exact trivial)
theorem k52 : FnOk Try.prog 52 i52 :=
  fn_ok (T := T) (Y := Y) (an := an) (env := env52) (fr := true) (lenv := lv52) mixed tok.1 tok.2 (envCons k68 (envNil)) (fn := Try.f52) (c := c52) (by kernel_rfl) (by kernel_rfl) (by kernel_rfl) ll52 (fun a => congrFun e52 a)
/-! ### (*broker/brokerref05.Reader).Text -/
noncomputable def c53 : Code := Try.f53.body.getD .skip
noncomputable def env53 : Env := mkEnv [(69, i69)]
abbrev ps53 : List PSh := [.io (.ob (.ag (.pr (.ty (.sl .u8)) (.pr (.ty (.i .i64)) (.ty (.i .i64)))))) (.ob (.ag (.pr (.ty (.sl .u8)) (.pr (.ty (.i .i64)) (.ty (.i .i64)))))), .d (.i .i64)]
abbrev D53 : Type := pairD (.ty .s) (osOf ps53)
noncomputable def lv53 : Nat → Option (LI D53) := fun _ => none
noncomputable def g53 (a0_0 : List UInt8) (a0_1 : Int) (a0_2 : Int) (a1 : Int) : Option (List UInt8 × List UInt8 × Int × Int) :=
  cond (a0_2 != 0)
    (some (([], a0_0, a0_1, a0_2)))
    (Option.bind (g69 a0_0 a0_1 a1) fun v1 =>
    cond (v1.2.2 != 0)
      (some (([], a0_0, a0_1, v1.2.2)))
      (some ((v1.1, a0_0, v1.2.1, a0_2))))
noncomputable def i53 : FI := ⟨ps53, .ty .s, fun ((a0_0, a0_1, a0_2), a1) => g53 a0_0 a0_1 a0_2 a1⟩
theorem e53 : (fun a => i53.G a) = fnEval T Y env53 an i53.ps i53.rs true Try.f53.results.toList lv53 c53 := by kernel_rfl
theorem lo53 : loopsOf c53 = [] := by kernel_rfl
theorem ll53 : LoopsOk T Y env53 an lv53 (finO T true ps53 (.ty .s) Try.f53.results.toList) c53 := loopsOk_of (by rw [lo53]; exact trivial)
theorem k53 : FnOk Try.prog 53 i53 :=
  fn_ok (T := T) (Y := Y) (an := an) (env := env53) (fr := true) (lenv := lv53) mixed tok.1 tok.2 (envCons k69 (envNil)) (fn := Try.f53) (c := c53) (by kernel_rfl) (by kernel_rfl) (by kernel_rfl) ll53 (fun a => congrFun e53 a)
/-! ### broker/brokerref31.Decode -/
noncomputable def c35 : Code := Try.f35.body.getD .skip
noncomputable def env35 : Env := mkEnv [(51, i51), (52, i52), (53, i53), (54, i54)]
abbrev ps35 : List PSh := [.d (.sl .u8), .d (.i .i64)]
abbrev D35 : Type := pairD (.tup (.pr (.ty (.st (.pr (.i .i64) (.pr (.i .i64) (.pr .s .s))))) (.pr (.ty (.i .i64)) (.ty (.i .i64))))) (osOf ps35)
noncomputable def lv35 : Nat → Option (LI D35) := fun _ => none
noncomputable def g35 (a0 : List UInt8) (a1 : Int) : Option ((Int × Int × List UInt8 × List UInt8) × Int × Int) :=
  Option.bind (g51 a0 a1) fun v1 =>
  cond (v1.2.2 != 0)
    (some (((0, 0, [], []), 0, v1.2.2)))
    (Option.bind (g52 v1.1 0 0) fun v2 =>
    Option.bind (g52 v2.2.1 v2.2.2.1 v2.2.2.2) fun v3 =>
    Option.bind (g53 v3.2.1 v3.2.2.1 v3.2.2.2 64) fun v4 =>
    Option.bind (g53 v4.2.1 v4.2.2.1 v4.2.2.2 4096) fun v5 =>
    cond (v5.2.2.2 == 0)
      (cond (decide (v5.2.2.1 < (↑(List.length v1.1) : Int)))
        (some (((0, 0, [], []), 0, 2)))
        (cond (v5.2.2.2 == 0)
          (Option.bind (g54 v2.1 v3.1 v4.1 v5.1) fun v6 =>
          cond (v6 != 0)
            (some (((0, 0, [], []), 0, v6)))
            (some (((v2.1, v3.1, v4.1, v5.1), v1.2.1, 0))))
          (cond (v5.2.2.2 != 0)
            (some (((0, 0, [], []), 0, v5.2.2.2)))
            (some (((v2.1, v3.1, v4.1, v5.1), v1.2.1, 0))))))
      (cond (v5.2.2.2 == 0)
        (Option.bind (g54 v2.1 v3.1 v4.1 v5.1) fun v7 =>
        cond (v7 != 0)
          (some (((0, 0, [], []), 0, v7)))
          (some (((v2.1, v3.1, v4.1, v5.1), v1.2.1, 0))))
        (cond (v5.2.2.2 != 0)
          (some (((0, 0, [], []), 0, v5.2.2.2)))
          (some (((v2.1, v3.1, v4.1, v5.1), v1.2.1, 0))))))
noncomputable def i35 : FI := ⟨ps35, .tup (.pr (.ty (.st (.pr (.i .i64) (.pr (.i .i64) (.pr .s .s))))) (.pr (.ty (.i .i64)) (.ty (.i .i64)))), fun (a0, a1) => g35 a0 a1⟩
theorem e35 : (fun a => i35.G a) = fnEval T Y env35 an i35.ps i35.rs true Try.f35.results.toList lv35 c35 := by kernel_rfl
theorem lo35 : loopsOf c35 = [] := by kernel_rfl
theorem ll35 : LoopsOk T Y env35 an lv35 (finO T true ps35 (.tup (.pr (.ty (.st (.pr (.i .i64) (.pr (.i .i64) (.pr .s .s))))) (.pr (.ty (.i .i64)) (.ty (.i .i64))))) Try.f35.results.toList) c35 := loopsOk_of (by rw [lo35]; exact trivial)
theorem k35 : FnOk Try.prog 35 i35 :=
  fn_ok (T := T) (Y := Y) (an := an) (env := env35) (fr := true) (lenv := lv35) mixed tok.1 tok.2 (envCons k51 (envCons k52 (envCons k53 (envCons k54 (envNil))))) (fn := Try.f35) (c := c35) (by kernel_rfl) (by kernel_rfl) (by kernel_rfl) ll35 (fun a => congrFun e35 a)
/-! ### broker/brokerref31.Same -/
noncomputable def c15 : Code := Try.f15.body.getD .skip
noncomputable def env15 : Env := mkEnv []
abbrev ps15 : List PSh := [.d (.sl (.st (.pr (.i .i64) (.pr (.i .i64) (.pr .s .s))))), .d (.sl (.st (.pr (.i .i64) (.pr (.i .i64) (.pr .s .s)))))]
abbrev D15 : Type := pairD (.ty .b) (osOf ps15)
def ns15_0 : NS := { slots := [(0, .ty (.sl (.st (.pr (.i .i64) (.pr (.i .i64) (.pr .s .s)))))), (1, .ty (.sl (.st (.pr (.i .i64) (.pr (.i .i64) (.pr .s .s)))))), (5, .ty (.i .i64))], roots := [] }
def ex15_0 : List (Nat × NS) := [(0, { slots := [], roots := [] })]
noncomputable def st15_0 (ih : (((List (Int × Int × List UInt8 × List UInt8)) × (List (Int × Int × List UInt8 × List UInt8)) × Int) × (Unit)) → Option (((Unit) × (Unit)) ⊕ Bool)) : (((List (Int × Int × List UInt8 × List UInt8)) × (List (Int × Int × List UInt8 × List UInt8)) × Int) × (Unit)) → Option (((Unit) × (Unit)) ⊕ Bool) := fun ((t0, t1, t5), ()) =>
  cond (decide (t5 < (↑t0.length : Int)))
    (cond (decide (0 ≤ t5) && decide (t5 < (↑t0.length : Int)))
      (cond (decide (0 ≤ t5) && decide (t5 < (↑t1.length : Int)))
        (cond (!((t0.getD t5.toNat (0, 0, [], [])).1 == (t1.getD t5.toNat (0, 0, [], [])).1 && ((t0.getD t5.toNat (0, 0, [], [])).2.1 == (t1.getD t5.toNat (0, 0, [], [])).2.1 && ((t0.getD t5.toNat (0, 0, [], [])).2.2.1 == (t1.getD t5.toNat (0, 0, [], [])).2.2.1 && ((t0.getD t5.toNat (0, 0, [], [])).2.2.2 == (t1.getD t5.toNat (0, 0, [], [])).2.2.2 && true)))))
          (some (Sum.inr false))
          (ih ((t0, t1, IntKind.i64.wrap (t5 + 1)), ())))
        (none))
      (none))
    (some (Sum.inl ((), ())))
noncomputable def h15_0 : (((List (Int × Int × List UInt8 × List UInt8)) × (List (Int × Int × List UInt8 × List UInt8)) × Int) × (Unit)) → Option (((Unit) × (Unit)) ⊕ Bool) := loopN st15_0 fuel
noncomputable def l15_0 : LI D15 := ⟨ns15_0, ex15_0, h15_0⟩
noncomputable def lv15 : Nat → Option (LI D15) := fun q => if q = 4 then some l15_0 else (fun _ => none) q
noncomputable def g15 (a0 : List (Int × Int × List UInt8 × List UInt8)) (a1 : List (Int × Int × List UInt8 × List UInt8)) : Option (Bool) :=
  cond ((↑a0.length : Int) != (↑a1.length : Int))
    (some (false))
    (Option.bind (h15_0 ((a0, a1, 0), ())) fun v1 =>
    match v1 with
    | .inl x2 =>
      some (true)
    | .inr x2 =>
      some (x2))
noncomputable def i15 : FI := ⟨ps15, .ty .b, fun (a0, a1) => g15 a0 a1⟩
theorem s15_0 : st15_0 = stepEval T Y env15 an lv15 (finO T true ps15 (.ty .b) Try.f15.results.toList) (loopAt c15 0) ns15_0 ex15_0 := by kernel_rfl
theorem e15 : (fun a => i15.G a) = fnEval T Y env15 an i15.ps i15.rs true Try.f15.results.toList lv15 c15 := by kernel_rfl
theorem lo15 : loopsOf c15 = [loopAt c15 0] := by kernel_rfl
theorem ll15 : LoopsOk T Y env15 an lv15 (finO T true ps15 (.ty .b) Try.f15.results.toList) c15 := loopsOk_of (by rw [lo15]; exact ⟨loop1 (li := l15_0) (by kernel_rfl) (by kernel_rfl) s15_0, trivial⟩)
theorem k15 : FnOk Try.prog 15 i15 :=
  fn_ok (T := T) (Y := Y) (an := an) (env := env15) (fr := true) (lenv := lv15) mixed tok.1 tok.2 (envNil) (fn := Try.f15) (c := c15) (by kernel_rfl) (by kernel_rfl) (by kernel_rfl) ll15 (fun a => congrFun e15 a)
end Go.Proofs.Ytbncnkchedhnpaa.EVT
