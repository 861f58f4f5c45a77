/- What functions compute, as printed (U, part R). -/
import Derived.Test.YtbncnkchedhnpaaUG
set_option linter.unusedVariables false
set_option maxRecDepth 100000
set_option maxHeartbeats 0
namespace Go.Proofs.Ytbncnkchedhnpaa.EVT
open Go Go.EV
/-! ### broker/brokerref34.New -/
noncomputable def c20 : Code := Try.f20.body.getD .skip
noncomputable def env20 : Env := mkEnv [(37, i37)]
abbrev ps20 : List PSh := [.d (.i .i64)]
abbrev D20 : Type := pairD (.tup (.pr (.ty (.st (.pr (.i .i64) (.sl (.st (.pr (.i .i64) (.pr (.i .i64) (.sl .u8)))))))) (.ty (.i .i64)))) (osOf ps20)
noncomputable def lv20 : Nat → Option (LI D20) := fun _ => none
noncomputable def g20 (a0 : Int) : Option ((Int × List (Int × Int × List UInt8)) × Int) :=
  cond (decide (a0 < 64))
    (some (((0, []), 1)))
    (cond (decide (a0 > 65536))
      (some (((0, []), 1)))
      (Option.bind (g37 0) fun v1 =>
      some (((a0, [v1]), 0))))
noncomputable def i20 : FI := ⟨ps20, .tup (.pr (.ty (.st (.pr (.i .i64) (.sl (.st (.pr (.i .i64) (.pr (.i .i64) (.sl .u8)))))))) (.ty (.i .i64))), fun a0 => g20 a0⟩
theorem e20 : (fun a => i20.G a) = fnEval T Y env20 an i20.ps i20.rs true Try.f20.results.toList lv20 c20 := by kernel_rfl
theorem lo20 : loopsOf c20 = [] := by kernel_rfl
theorem ll20 : LoopsOk T Y env20 an lv20 (finO T true ps20 (.tup (.pr (.ty (.st (.pr (.i .i64) (.sl (.st (.pr (.i .i64) (.pr (.i .i64) (.sl .u8)))))))) (.ty (.i .i64)))) Try.f20.results.toList) c20 := loopsOk_of (by rw [lo20]; exact trivial)
theorem k20 : FnOk Try.prog 20 i20 :=
  fn_ok (T := T) (Y := Y) (an := an) (env := env20) (fr := true) (lenv := lv20) mixed tok.1 tok.2 (envCons k37 (envNil)) (fn := Try.f20) (c := c20) (by kernel_rfl) (by kernel_rfl) (by kernel_rfl) ll20 (fun a => congrFun e20 a)
/-! ### broker/brokerref34.First -/
noncomputable def c41 : Code := Try.f41.body.getD .skip
noncomputable def env41 : Env := mkEnv []
abbrev ps41 : List PSh := [.d (.st (.pr (.i .i64) (.sl (.st (.pr (.i .i64) (.pr (.i .i64) (.sl .u8)))))))]
abbrev D41 : Type := pairD (.ty (.i .i64)) (osOf ps41)
noncomputable def lv41 : Nat → Option (LI D41) := fun _ => none
noncomputable def g41 (a0_0 : Int) (a0_1 : List (Int × Int × List UInt8)) : Option (Int) :=
  cond (decide (0 ≤ 0) && decide (0 < (↑a0_1.length : Int)))
    (some ((a0_1.getD (Int.toNat 0) (0, 0, [])).1))
    (none)
noncomputable def i41 : FI := ⟨ps41, .ty (.i .i64), fun (a0_0, a0_1) => g41 a0_0 a0_1⟩
theorem e41 : (fun a => i41.G a) = fnEval T Y env41 an i41.ps i41.rs true Try.f41.results.toList lv41 c41 := by kernel_rfl
theorem lo41 : loopsOf c41 = [] := by kernel_rfl
theorem ll41 : LoopsOk T Y env41 an lv41 (finO T true ps41 (.ty (.i .i64)) Try.f41.results.toList) c41 := loopsOk_of (by rw [lo41]; exact trivial)
theorem k41 : FnOk Try.prog 41 i41 :=
  fn_ok (T := T) (Y := Y) (an := an) (env := env41) (fr := true) (lenv := lv41) mixed tok.1 tok.2 (envNil) (fn := Try.f41) (c := c41) (by kernel_rfl) (by kernel_rfl) (by kernel_rfl) ll41 (fun a => congrFun e41 a)
/-! ### broker/brokerref34.Next -/
noncomputable def c42 : Code := Try.f42.body.getD .skip
noncomputable def env42 : Env := mkEnv []
abbrev ps42 : List PSh := [.d (.st (.pr (.i .i64) (.sl (.st (.pr (.i .i64) (.pr (.i .i64) (.sl .u8)))))))]
abbrev D42 : Type := pairD (.ty (.i .i64)) (osOf ps42)
noncomputable def lv42 : Nat → Option (LI D42) := fun _ => none
noncomputable def g42 (a0_0 : Int) (a0_1 : List (Int × Int × List UInt8)) : Option (Int) :=
  cond (decide (0 ≤ IntKind.i64.wrap ((↑a0_1.length : Int) - 1)) && decide (IntKind.i64.wrap ((↑a0_1.length : Int) - 1) < (↑a0_1.length : Int)))
    (some ((a0_1.getD (IntKind.i64.wrap ((↑a0_1.length : Int) - 1)).toNat (0, 0, [])).2.1))
    (none)
noncomputable def i42 : FI := ⟨ps42, .ty (.i .i64), fun (a0_0, a0_1) => g42 a0_0 a0_1⟩
theorem e42 : (fun a => i42.G a) = fnEval T Y env42 an i42.ps i42.rs true Try.f42.results.toList lv42 c42 := by kernel_rfl
theorem lo42 : loopsOf c42 = [] := by kernel_rfl
theorem ll42 : LoopsOk T Y env42 an lv42 (finO T true ps42 (.ty (.i .i64)) Try.f42.results.toList) c42 := loopsOk_of (by rw [lo42]; exact trivial)
theorem k42 : FnOk Try.prog 42 i42 :=
  fn_ok (T := T) (Y := Y) (an := an) (env := env42) (fr := true) (lenv := lv42) mixed tok.1 tok.2 (envNil) (fn := Try.f42) (c := c42) (by kernel_rfl) (by kernel_rfl) (by kernel_rfl) ll42 (fun a => congrFun e42 a)
/-! ### broker/brokerref34.Records -/
noncomputable def c45 : Code := Try.f45.body.getD .skip
noncomputable def env45 : Env := mkEnv [(18, i18)]
abbrev ps45 : List PSh := [.d (.st (.pr (.i .i64) (.sl (.st (.pr (.i .i64) (.pr (.i .i64) (.sl .u8)))))))]
abbrev D45 : Type := pairD (.ty (.sl (.st (.pr (.i .i64) (.pr (.i .i64) (.pr .s .s)))))) (osOf ps45)
def ns45_0 : NS := { slots := [(1, .pt 1 []), (3, .hw 19), (4, .ty (.i .i64))], roots := [(19, .ar 4 (.st (.pr (.i .i64) (.pr (.i .i64) (.pr .s .s))))), (1, .ty (.st (.pr (.i .i64) (.sl (.st (.pr (.i .i64) (.pr (.i .i64) (.sl .u8))))))))], ad := [{ t := 3, path := [], g := 19, d := 4, τ := (.st (.pr (.i .i64) (.pr (.i .i64) (.pr .s .s))) : Ty) }] }
def ex45_0 : List (Nat × NS) := [(0, { slots := [(3, .hw 19)], roots := [(19, .ar 4 (.st (.pr (.i .i64) (.pr (.i .i64) (.pr .s .s)))))] })]
noncomputable def st45_0 (ih : ((Int) × ((List (Int × Int × List UInt8 × List UInt8)) × Int × List (Int × Int × List UInt8))) → Option (((Unit) × (List (Int × Int × List UInt8 × List UInt8))) ⊕ ((List (Int × Int × List UInt8 × List UInt8))))) : ((Int) × ((List (Int × Int × List UInt8 × List UInt8)) × Int × List (Int × Int × List UInt8))) → Option (((Unit) × (List (Int × Int × List UInt8 × List UInt8))) ⊕ ((List (Int × Int × List UInt8 × List UInt8)))) := fun (t4, (r19, (r1_0, r1_1))) =>
  cond (decide (t4 < (↑r1_1.length : Int)))
    (cond (decide (0 ≤ t4) && decide (t4 < (↑r1_1.length : Int)))
      (Option.bind (g18 (r1_1.getD t4.toNat (0, 0, [])).1 (r1_1.getD t4.toNat (0, 0, [])).2.1 (r1_1.getD t4.toNat (0, 0, [])).2.2) fun v1 =>
      cond (decide (r19.length + List.length v1 ≤ 2147483647))
        (ih (IntKind.i64.wrap (t4 + 1), r19 ++ v1, r1_0, r1_1))
        (none))
      (none))
    (some (Sum.inl ((), r19)))
noncomputable def h45_0 : ((Int) × ((List (Int × Int × List UInt8 × List UInt8)) × Int × List (Int × Int × List UInt8))) → Option (((Unit) × (List (Int × Int × List UInt8 × List UInt8))) ⊕ ((List (Int × Int × List UInt8 × List UInt8)))) := loopN st45_0 fuel
noncomputable def l45_0 : LI D45 := ⟨ns45_0, ex45_0, h45_0⟩
noncomputable def lv45 : Nat → Option (LI D45) := fun q => if q = 3 then some l45_0 else (fun _ => none) q
noncomputable def g45 (a0_0 : Int) (a0_1 : List (Int × Int × List UInt8)) : Option (List (Int × Int × List UInt8 × List UInt8)) :=
  Option.bind (h45_0 (0, [], a0_0, a0_1)) fun v1 =>
  match v1 with
  | .inl x2 =>
    some (x2.2)
  | .inr x2 =>
    some (x2)
noncomputable def i45 : FI := ⟨ps45, .ty (.sl (.st (.pr (.i .i64) (.pr (.i .i64) (.pr .s .s))))), fun (a0_0, a0_1) => g45 a0_0 a0_1⟩
theorem s45_0 : st45_0 = stepEval T Y env45 an lv45 (finO T true ps45 (.ty (.sl (.st (.pr (.i .i64) (.pr (.i .i64) (.pr .s .s)))))) Try.f45.results.toList) (loopAt c45 0) ns45_0 ex45_0 := by kernel_rfl
theorem e45 : (fun a => i45.G a) = fnEval T Y env45 an i45.ps i45.rs true Try.f45.results.toList lv45 c45 := by kernel_rfl
theorem lo45 : loopsOf c45 = [loopAt c45 0] := by kernel_rfl
theorem ll45 : LoopsOk T Y env45 an lv45 (finO T true ps45 (.ty (.sl (.st (.pr (.i .i64) (.pr (.i .i64) (.pr .s .s)))))) Try.f45.results.toList) c45 := loopsOk_of (by rw [lo45]; exact ⟨loop1 (li := l45_0) (by kernel_rfl) (by kernel_rfl) s45_0, trivial⟩)
theorem k45 : FnOk Try.prog 45 i45 :=
  fn_ok (T := T) (Y := Y) (an := an) (env := env45) (fr := true) (lenv := lv45) mixed tok.1 tok.2 (envCons k18 (envNil)) (fn := Try.f45) (c := c45) (by kernel_rfl) (by kernel_rfl) (by kernel_rfl) ll45 (fun a => congrFun e45 a)
/-! ### broker/brokerref34.Read -/
noncomputable def c25 : Code := Try.f25.body.getD .skip
noncomputable def env25 : Env := mkEnv [(41, i41), (42, i42), (45, i45)]
abbrev ps25 : List PSh := [.d (.st (.pr (.i .i64) (.sl (.st (.pr (.i .i64) (.pr (.i .i64) (.sl .u8))))))), .d (.i .i64), .d (.i .i64)]
abbrev D25 : Type := pairD (.tup (.pr (.ty (.sl (.st (.pr (.i .i64) (.pr (.i .i64) (.pr .s .s)))))) (.ty (.i .i64)))) (osOf ps25)
def ns25_0 : NS := { slots := [(8, .hw 48), (1, .ty (.i .i64)), (2, .ty (.i .i64)), (9, .ty (.sl (.st (.pr (.i .i64) (.pr (.i .i64) (.pr .s .s)))))), (10, .ty (.i .i64))], roots := [(48, .ar 4 (.st (.pr (.i .i64) (.pr (.i .i64) (.pr .s .s)))))], ad := [{ t := 8, path := [], g := 48, d := 4, τ := (.st (.pr (.i .i64) (.pr (.i .i64) (.pr .s .s))) : Ty) }] }
def ex25_0 : List (Nat × NS) := [(0, { slots := [(8, .hw 48)], roots := [(48, .ar 4 (.st (.pr (.i .i64) (.pr (.i .i64) (.pr .s .s)))))] })]
noncomputable def st25_0 (ih : ((Int × Int × (List (Int × Int × List UInt8 × List UInt8)) × Int) × (List (Int × Int × List UInt8 × List UInt8))) → Option (((Unit) × (List (Int × Int × List UInt8 × List UInt8))) ⊕ (((List (Int × Int × List UInt8 × List UInt8)) × Int)))) : ((Int × Int × (List (Int × Int × List UInt8 × List UInt8)) × Int) × (List (Int × Int × List UInt8 × List UInt8))) → Option (((Unit) × (List (Int × Int × List UInt8 × List UInt8))) ⊕ (((List (Int × Int × List UInt8 × List UInt8)) × Int))) := fun ((t1, t2, t9, t10), r48) =>
  cond (decide (t10 < (↑t9.length : Int)))
    (cond (decide (0 ≤ t10) && decide (t10 < (↑t9.length : Int)))
      (cond (decide ((t9.getD t10.toNat (0, 0, [], [])).1 ≥ t1))
        (cond (decide ((↑r48.length : Int) < t2))
          (cond (decide (0 ≤ t10) && decide (t10 < (↑t9.length : Int)))
            (cond (decide (r48.length + 1 ≤ 2147483647))
              (ih ((t1, t2, t9, IntKind.i64.wrap (t10 + 1)), r48 ++ [t9.getD t10.toNat (0, 0, [], [])]))
              (none))
            (none))
          (ih ((t1, t2, t9, IntKind.i64.wrap (t10 + 1)), r48)))
        (ih ((t1, t2, t9, IntKind.i64.wrap (t10 + 1)), r48)))
      (none))
    (some (Sum.inl ((), r48)))
noncomputable def h25_0 : ((Int × Int × (List (Int × Int × List UInt8 × List UInt8)) × Int) × (List (Int × Int × List UInt8 × List UInt8))) → Option (((Unit) × (List (Int × Int × List UInt8 × List UInt8))) ⊕ (((List (Int × Int × List UInt8 × List UInt8)) × Int))) := loopN st25_0 fuel
noncomputable def l25_0 : LI D25 := ⟨ns25_0, ex25_0, h25_0⟩
noncomputable def lv25 : Nat → Option (LI D25) := fun q => if q = 6 then some l25_0 else (fun _ => none) q
noncomputable def g25 (a0_0 : Int) (a0_1 : List (Int × Int × List UInt8)) (a1 : Int) (a2 : Int) : Option ((List (Int × Int × List UInt8 × List UInt8)) × Int) :=
  Option.bind (g41 a0_0 a0_1) fun v1 =>
  cond (decide (a1 < v1))
    (some (([], 1)))
    (Option.bind (g42 a0_0 a0_1) fun v2 =>
    cond (decide (a1 > v2))
      (some (([], 1)))
      (Option.bind (g45 a0_0 a0_1) fun v3 =>
      Option.bind (h25_0 ((a1, a2, v3, 0), [])) fun v4 =>
      match v4 with
      | .inl x5 =>
        some ((x5.2, 0))
      | .inr x5 =>
        some (x5)))
noncomputable def i25 : FI := ⟨ps25, .tup (.pr (.ty (.sl (.st (.pr (.i .i64) (.pr (.i .i64) (.pr .s .s)))))) (.ty (.i .i64))), fun ((a0_0, a0_1), a1, a2) => g25 a0_0 a0_1 a1 a2⟩
theorem s25_0 : st25_0 = stepEval T Y env25 an lv25 (finO T true ps25 (.tup (.pr (.ty (.sl (.st (.pr (.i .i64) (.pr (.i .i64) (.pr .s .s)))))) (.ty (.i .i64)))) Try.f25.results.toList) (loopAt c25 0) ns25_0 ex25_0 := by kernel_rfl
theorem e25 : (fun a => i25.G a) = fnEval T Y env25 an i25.ps i25.rs true Try.f25.results.toList lv25 c25 := by kernel_rfl
theorem lo25 : loopsOf c25 = [loopAt c25 0] := by kernel_rfl
theorem ll25 : LoopsOk T Y env25 an lv25 (finO T true ps25 (.tup (.pr (.ty (.sl (.st (.pr (.i .i64) (.pr (.i .i64) (.pr .s .s)))))) (.ty (.i .i64)))) Try.f25.results.toList) c25 := loopsOk_of (by rw [lo25]; exact ⟨loop1 (li := l25_0) (by kernel_rfl) (by kernel_rfl) s25_0, trivial⟩)
theorem k25 : FnOk Try.prog 25 i25 :=
  fn_ok (T := T) (Y := Y) (an := an) (env := env25) (fr := true) (lenv := lv25) mixed tok.1 tok.2 (envCons k41 (envCons k42 (envCons k45 (envNil)))) (fn := Try.f25) (c := c25) (by kernel_rfl) (by kernel_rfl) (by kernel_rfl) ll25 (fun a => congrFun e25 a)
/-! ### broker/brokerref34.Append -/
noncomputable def c38 : Code := Try.f38.body.getD .skip
noncomputable def env38 : Env := mkEnv [(42, i42), (54, i54), (41, i41), (19, i19), (37, i37), (58, i58)]
abbrev ps38 : List PSh := [.d (.st (.pr (.i .i64) (.sl (.st (.pr (.i .i64) (.pr (.i .i64) (.sl .u8))))))), .d (.i .i64), .d .s, .d .s]
abbrev D38 : Type := pairD (.tup (.pr (.ty (.st (.pr (.i .i64) (.sl (.st (.pr (.i .i64) (.pr (.i .i64) (.sl .u8)))))))) (.pr (.ty (.i .i64)) (.ty (.i .i64))))) (osOf ps38)
noncomputable def lv38 : Nat → Option (LI D38) := fun _ => none
noncomputable def g38 (a0_0 : Int) (a0_1 : List (Int × Int × List UInt8)) (a1 : Int) (a2 : List UInt8) (a3 : List UInt8) : Option ((Int × List (Int × Int × List UInt8)) × Int × Int) :=
  Option.bind (g42 a0_0 a0_1) fun v1 =>
  Option.bind (g54 v1 a1 a2 a3) fun v2 =>
  cond (v2 != 0)
    (some (((a0_0, a0_1), 0, v2)))
    (Option.bind (g42 a0_0 a0_1) fun v3 =>
    Option.bind (g41 a0_0 a0_1) fun v4 =>
    cond (decide (IntKind.i64.wrap (v3 - v4) ≥ 4096))
      (some (((a0_0, a0_1), 0, 6)))
      (cond (decide (0 + a0_1.length ≤ 2147483647))
        (cond (decide (0 ≤ IntKind.i64.wrap ((↑([] ++ a0_1).length : Int) - 1)) && decide (IntKind.i64.wrap ((↑([] ++ a0_1).length : Int) - 1) < (↑([] ++ a0_1).length : Int)))
          (cond (decide ((IntKind.i64.wrap ((↑([] ++ a0_1).length : Int) - 1)).toNat < ([] ++ a0_1).length))
            (cond (decide ((↑(List.length (([] ++ a0_1).getD (IntKind.i64.wrap ((↑([] ++ a0_1).length : Int) - 1)).toNat (0, 0, [])).2.2) : Int) > 0))
              (Option.bind (g19 v1 a1 a2 a3) fun v5 =>
              cond (decide (IntKind.i64.wrap ((↑(List.length (([] ++ a0_1).getD (IntKind.i64.wrap ((↑([] ++ a0_1).length : Int) - 1)).toNat (0, 0, [])).2.2) : Int) + v5) > a0_0))
                (Option.bind (g37 v1) fun v6 =>
                cond (decide (([] ++ a0_1).length + 1 ≤ 2147483647))
                  (Option.bind (g58 v6.1 v6.2.1 v6.2.2 a1 a2 a3) fun v7 =>
                  cond (decide (0 ≤ IntKind.i64.wrap ((↑([] ++ a0_1 ++ [v6]).length : Int) - 1)) && decide (IntKind.i64.wrap ((↑([] ++ a0_1 ++ [v6]).length : Int) - 1) < (↑([] ++ a0_1 ++ [v6]).length : Int)))
                    (cond (decide ((IntKind.i64.wrap ((↑([] ++ a0_1 ++ [v6]).length : Int) - 1)).toNat < ([] ++ a0_1 ++ [v6]).length))
                      (some (((a0_0, ([] ++ a0_1 ++ [v6]).set (IntKind.i64.wrap ((↑([] ++ a0_1 ++ [v6]).length : Int) - 1)).toNat v7.1), v7.2.1, 0)))
                      (none))
                    (none))
                  (none))
                (Option.bind (g58 (([] ++ a0_1).getD (IntKind.i64.wrap ((↑([] ++ a0_1).length : Int) - 1)).toNat (0, 0, [])).1 (([] ++ a0_1).getD (IntKind.i64.wrap ((↑([] ++ a0_1).length : Int) - 1)).toNat (0, 0, [])).2.1 (([] ++ a0_1).getD (IntKind.i64.wrap ((↑([] ++ a0_1).length : Int) - 1)).toNat (0, 0, [])).2.2 a1 a2 a3) fun v8 =>
                cond (decide (0 ≤ IntKind.i64.wrap ((↑([] ++ a0_1).length : Int) - 1)) && decide (IntKind.i64.wrap ((↑([] ++ a0_1).length : Int) - 1) < (↑([] ++ a0_1).length : Int)))
                  (cond (decide ((IntKind.i64.wrap ((↑([] ++ a0_1).length : Int) - 1)).toNat < ([] ++ a0_1).length))
                    (some (((a0_0, ([] ++ a0_1).set (IntKind.i64.wrap ((↑([] ++ a0_1).length : Int) - 1)).toNat v8.1), v8.2.1, 0)))
                    (none))
                  (none)))
              (Option.bind (g58 (([] ++ a0_1).getD (IntKind.i64.wrap ((↑([] ++ a0_1).length : Int) - 1)).toNat (0, 0, [])).1 (([] ++ a0_1).getD (IntKind.i64.wrap ((↑([] ++ a0_1).length : Int) - 1)).toNat (0, 0, [])).2.1 (([] ++ a0_1).getD (IntKind.i64.wrap ((↑([] ++ a0_1).length : Int) - 1)).toNat (0, 0, [])).2.2 a1 a2 a3) fun v9 =>
              cond (decide (0 ≤ IntKind.i64.wrap ((↑([] ++ a0_1).length : Int) - 1)) && decide (IntKind.i64.wrap ((↑([] ++ a0_1).length : Int) - 1) < (↑([] ++ a0_1).length : Int)))
                (cond (decide ((IntKind.i64.wrap ((↑([] ++ a0_1).length : Int) - 1)).toNat < ([] ++ a0_1).length))
                  (some (((a0_0, ([] ++ a0_1).set (IntKind.i64.wrap ((↑([] ++ a0_1).length : Int) - 1)).toNat v9.1), v9.2.1, 0)))
                  (none))
                (none)))
            (none))
          (none))
        (none)))
noncomputable def i38 : FI := ⟨ps38, .tup (.pr (.ty (.st (.pr (.i .i64) (.sl (.st (.pr (.i .i64) (.pr (.i .i64) (.sl .u8)))))))) (.pr (.ty (.i .i64)) (.ty (.i .i64)))), fun ((a0_0, a0_1), a1, a2, a3) => g38 a0_0 a0_1 a1 a2 a3⟩
theorem e38 : (fun a => i38.G a) = fnEval T Y env38 an i38.ps i38.rs true Try.f38.results.toList lv38 c38 := by kernel_rfl
theorem lo38 : loopsOf c38 = [] := by kernel_rfl
theorem ll38 : LoopsOk T Y env38 an lv38 (finO T true ps38 (.tup (.pr (.ty (.st (.pr (.i .i64) (.sl (.st (.pr (.i .i64) (.pr (.i .i64) (.sl .u8)))))))) (.pr (.ty (.i .i64)) (.ty (.i .i64))))) Try.f38.results.toList) c38 := loopsOk_of (by rw [lo38]; exact trivial)
theorem k38 : FnOk Try.prog 38 i38 :=
  fn_ok (T := T) (Y := Y) (an := an) (env := env38) (fr := true) (lenv := lv38) mixed tok.1 tok.2 (envCons k42 (envCons k54 (envCons k41 (envCons k19 (envCons k37 (envCons k58 (envNil))))))) (fn := Try.f38) (c := c38) (by kernel_rfl) (by kernel_rfl) (by kernel_rfl) ll38 (fun a => congrFun e38 a)
/-! ### broker/brokerref34.Drop -/
noncomputable def c39 : Code := Try.f39.body.getD .skip
noncomputable def env39 : Env := mkEnv [(42, i42), (37, i37)]
abbrev ps39 : List PSh := [.d (.st (.pr (.i .i64) (.sl (.st (.pr (.i .i64) (.pr (.i .i64) (.sl .u8))))))), .d (.i .i64)]
abbrev D39 : Type := pairD (.tup (.pr (.ty (.st (.pr (.i .i64) (.sl (.st (.pr (.i .i64) (.pr (.i .i64) (.sl .u8)))))))) (.ty (.i .i64)))) (osOf ps39)
def ns39_0 : NS := { slots := [(2, .pt 2 []), (4, .pt 4 []), (1, .ty (.i .i64)), (6, .ty (.sl (.st (.pr (.i .i64) (.pr (.i .i64) (.sl .u8)))))), (7, .ty (.i .i64))], roots := [(4, .ty (.st (.pr (.i .i64) (.sl (.st (.pr (.i .i64) (.pr (.i .i64) (.sl .u8)))))))), (2, .ty (.st (.pr (.i .i64) (.sl (.st (.pr (.i .i64) (.pr (.i .i64) (.sl .u8))))))))] }
def ex39_0 : List (Nat × NS) := [(0, { slots := [(2, .pt 2 []), (4, .pt 4 []), (6, .ty (.sl (.st (.pr (.i .i64) (.pr (.i .i64) (.sl .u8)))))), (7, .ty (.i .i64))], roots := [(4, .ty (.st (.pr (.i .i64) (.sl (.st (.pr (.i .i64) (.pr (.i .i64) (.sl .u8)))))))), (2, .ty (.st (.pr (.i .i64) (.sl (.st (.pr (.i .i64) (.pr (.i .i64) (.sl .u8))))))))] })]
noncomputable def st39_0 (ih : ((Int × (List (Int × Int × List UInt8)) × Int) × ((Int × List (Int × Int × List UInt8)) × Int × List (Int × Int × List UInt8))) → Option ((((List (Int × Int × List UInt8)) × Int) × ((Int × List (Int × Int × List UInt8)) × Int × List (Int × Int × List UInt8))) ⊕ (((Int × List (Int × Int × List UInt8)) × Int)))) : ((Int × (List (Int × Int × List UInt8)) × Int) × ((Int × List (Int × Int × List UInt8)) × Int × List (Int × Int × List UInt8))) → Option ((((List (Int × Int × List UInt8)) × Int) × ((Int × List (Int × Int × List UInt8)) × Int × List (Int × Int × List UInt8))) ⊕ (((Int × List (Int × Int × List UInt8)) × Int))) := fun ((t1, t6, t7), ((r4_0, r4_1), (r2_0, r2_1))) =>
  cond (decide ((↑t6.length : Int) > 0))
    (cond (decide (0 ≤ 0) && decide (0 < (↑t6.length : Int)))
      (cond (decide ((↑(List.length (t6.getD (Int.toNat 0) (0, 0, [])).2.2) : Int) > 0))
        (cond (decide (0 ≤ 0) && decide (0 < (↑t6.length : Int)))
          (cond (decide ((t6.getD (Int.toNat 0) (0, 0, [])).2.1 ≤ t1))
            (cond (decide (0 ≤ 0) && decide (0 < (↑t6.length : Int)))
              (cond (decide (0 ≤ 0) && decide (0 < (↑t6.length : Int)))
                (cond (decide (0 ≤ 1) && decide (1 ≤ (↑t6.length : Int)) && true)
                  (ih ((t1, List.drop (Int.toNat 1) (List.take t6.length t6), IntKind.i64.wrap (IntKind.i64.wrap (t7 + (t6.getD (Int.toNat 0) (0, 0, [])).2.1) - (t6.getD (Int.toNat 0) (0, 0, [])).1)), (r4_0, r4_1), r2_0, r2_1))
                  (none))
                (none))
              (none))
            (some (Sum.inl ((t6, t7), (r4_0, r4_1), r2_0, r2_1))))
          (none))
        (some (Sum.inl ((t6, t7), (r4_0, r4_1), r2_0, r2_1))))
      (none))
    (some (Sum.inl ((t6, t7), (r4_0, r4_1), r2_0, r2_1)))
noncomputable def h39_0 : ((Int × (List (Int × Int × List UInt8)) × Int) × ((Int × List (Int × Int × List UInt8)) × Int × List (Int × Int × List UInt8))) → Option ((((List (Int × Int × List UInt8)) × Int) × ((Int × List (Int × Int × List UInt8)) × Int × List (Int × Int × List UInt8))) ⊕ (((Int × List (Int × Int × List UInt8)) × Int))) := loopN st39_0 fuel
noncomputable def l39_0 : LI D39 := ⟨ns39_0, ex39_0, h39_0⟩
noncomputable def lv39 : Nat → Option (LI D39) := fun q => if q = 3 then some l39_0 else (fun _ => none) q
noncomputable def g39 (a0_0 : Int) (a0_1 : List (Int × Int × List UInt8)) (a1 : Int) : Option ((Int × List (Int × Int × List UInt8)) × Int) :=
  Option.bind (h39_0 ((a1, a0_1, 0), (0, []), a0_0, a0_1)) fun v1 =>
  match v1 with
  | .inl x2 =>
    cond (decide (0 + List.length x2.1.1 ≤ 2147483647))
      (cond ((↑([] ++ x2.1.1).length : Int) == 0)
        (Option.bind (g42 x2.2.2.1 x2.2.2.2) fun v3 =>
        Option.bind (g37 v3) fun v4 =>
        cond (decide (([] ++ x2.1.1).length + 1 ≤ 2147483647))
          (some (((x2.2.2.1, [] ++ x2.1.1 ++ [v4]), x2.1.2)))
          (none))
        (some (((x2.2.2.1, [] ++ x2.1.1), x2.1.2))))
      (none)
  | .inr x2 =>
    some (x2)
noncomputable def i39 : FI := ⟨ps39, .tup (.pr (.ty (.st (.pr (.i .i64) (.sl (.st (.pr (.i .i64) (.pr (.i .i64) (.sl .u8)))))))) (.ty (.i .i64))), fun ((a0_0, a0_1), a1) => g39 a0_0 a0_1 a1⟩
theorem s39_0 : st39_0 = stepEval T Y env39 an lv39 (finO T true ps39 (.tup (.pr (.ty (.st (.pr (.i .i64) (.sl (.st (.pr (.i .i64) (.pr (.i .i64) (.sl .u8)))))))) (.ty (.i .i64)))) Try.f39.results.toList) (loopAt c39 0) ns39_0 ex39_0 := by kernel_rfl
theorem e39 : (fun a => i39.G a) = fnEval T Y env39 an i39.ps i39.rs true Try.f39.results.toList lv39 c39 := by kernel_rfl
theorem lo39 : loopsOf c39 = [loopAt c39 0] := by kernel_rfl
theorem ll39 : LoopsOk T Y env39 an lv39 (finO T true ps39 (.tup (.pr (.ty (.st (.pr (.i .i64) (.sl (.st (.pr (.i .i64) (.pr (.i .i64) (.sl .u8)))))))) (.ty (.i .i64)))) Try.f39.results.toList) c39 := loopsOk_of (by rw [lo39]; exact ⟨loop1 (li := l39_0) (by kernel_rfl) (by kernel_rfl) s39_0, trivial⟩)
theorem k39 : FnOk Try.prog 39 i39 :=
  fn_ok (T := T) (Y := Y) (an := an) (env := env39) (fr := true) (lenv := lv39) mixed tok.1 tok.2 (envCons k42 (envCons k37 (envNil))) (fn := Try.f39) (c := c39) (by kernel_rfl) (by kernel_rfl) (by kernel_rfl) ll39 (fun a => congrFun e39 a)
/-! ### broker/brokerref34.Cut -/
noncomputable def c40 : Code := Try.f40.body.getD .skip
noncomputable def env40 : Env := mkEnv [(41, i41), (42, i42), (59, i59), (37, i37)]
abbrev ps40 : List PSh := [.d (.st (.pr (.i .i64) (.sl (.st (.pr (.i .i64) (.pr (.i .i64) (.sl .u8))))))), .d (.i .i64)]
abbrev D40 : Type := pairD (.tup (.pr (.ty (.st (.pr (.i .i64) (.sl (.st (.pr (.i .i64) (.pr (.i .i64) (.sl .u8)))))))) (.ty (.i .i64)))) (osOf ps40)
def ns40_0 : NS := { slots := [(2, .pt 2 []), (4, .pt 4 []), (6, .hw 48), (1, .ty (.i .i64)), (7, .ty (.i .i64))], roots := [(48, .ar 3 (.st (.pr (.i .i64) (.pr (.i .i64) (.sl .u8))))), (4, .ty (.st (.pr (.i .i64) (.sl (.st (.pr (.i .i64) (.pr (.i .i64) (.sl .u8)))))))), (2, .ty (.st (.pr (.i .i64) (.sl (.st (.pr (.i .i64) (.pr (.i .i64) (.sl .u8))))))))], ad := [{ t := 6, path := [], g := 48, d := 3, τ := (.st (.pr (.i .i64) (.pr (.i .i64) (.sl .u8))) : Ty) }] }
def ex40_0 : List (Nat × NS) := [(0, { slots := [(2, .pt 2 []), (4, .pt 4 []), (6, .hw 48), (1, .ty (.i .i64))], roots := [(48, .ar 3 (.st (.pr (.i .i64) (.pr (.i .i64) (.sl .u8))))), (4, .ty (.st (.pr (.i .i64) (.sl (.st (.pr (.i .i64) (.pr (.i .i64) (.sl .u8)))))))), (2, .ty (.st (.pr (.i .i64) (.sl (.st (.pr (.i .i64) (.pr (.i .i64) (.sl .u8))))))))] })]
noncomputable def st40_0 (ih : ((Int × Int) × ((List (Int × Int × List UInt8)) × (Int × List (Int × Int × List UInt8)) × Int × List (Int × Int × List UInt8))) → Option (((Int) × ((List (Int × Int × List UInt8)) × (Int × List (Int × Int × List UInt8)) × Int × List (Int × Int × List UInt8))) ⊕ (((Int × List (Int × Int × List UInt8)) × Int)))) : ((Int × Int) × ((List (Int × Int × List UInt8)) × (Int × List (Int × Int × List UInt8)) × Int × List (Int × Int × List UInt8))) → Option (((Int) × ((List (Int × Int × List UInt8)) × (Int × List (Int × Int × List UInt8)) × Int × List (Int × Int × List UInt8))) ⊕ (((Int × List (Int × Int × List UInt8)) × Int))) := fun ((t1, t7), (r48, (r4_0, r4_1), (r2_0, r2_1))) =>
  cond (decide (t7 < (↑r2_1.length : Int)))
    (cond (decide (0 ≤ t7) && decide (t7 < (↑r2_1.length : Int)))
      (cond (decide ((r2_1.getD t7.toNat (0, 0, [])).1 < t1))
        (cond (decide (0 ≤ t7) && decide (t7 < (↑r2_1.length : Int)))
          (Option.bind (g59 (r2_1.getD t7.toNat (0, 0, [])).1 (r2_1.getD t7.toNat (0, 0, [])).2.1 (r2_1.getD t7.toNat (0, 0, [])).2.2 t1) fun v1 =>
          cond (decide (r48.length + 1 ≤ 2147483647))
            (ih ((t1, IntKind.i64.wrap (t7 + 1)), r48 ++ [v1], (r4_0, r4_1), r2_0, r2_1))
            (none))
          (none))
        (ih ((t1, IntKind.i64.wrap (t7 + 1)), r48, (r4_0, r4_1), r2_0, r2_1)))
      (none))
    (some (Sum.inl (t1, r48, (r4_0, r4_1), r2_0, r2_1)))
noncomputable def h40_0 : ((Int × Int) × ((List (Int × Int × List UInt8)) × (Int × List (Int × Int × List UInt8)) × Int × List (Int × Int × List UInt8))) → Option (((Int) × ((List (Int × Int × List UInt8)) × (Int × List (Int × Int × List UInt8)) × Int × List (Int × Int × List UInt8))) ⊕ (((Int × List (Int × Int × List UInt8)) × Int))) := loopN st40_0 fuel
noncomputable def l40_0 : LI D40 := ⟨ns40_0, ex40_0, h40_0⟩
noncomputable def lv40 : Nat → Option (LI D40) := fun q => if q = 7 then some l40_0 else (fun _ => none) q
noncomputable def g40 (a0_0 : Int) (a0_1 : List (Int × Int × List UInt8)) (a1 : Int) : Option ((Int × List (Int × Int × List UInt8)) × Int) :=
  Option.bind (g41 a0_0 a0_1) fun v1 =>
  cond (decide (a1 < v1))
    (some (((a0_0, a0_1), 1)))
    (Option.bind (g42 a0_0 a0_1) fun v2 =>
    cond (decide (a1 > v2))
      (some (((a0_0, a0_1), 1)))
      (Option.bind (g42 a0_0 a0_1) fun v3 =>
      cond (a1 == v3)
        (some (((a0_0, a0_1), 0)))
        (Option.bind (h40_0 ((a1, 0), [], (0, []), a0_0, a0_1)) fun v4 =>
        match v4 with
        | .inl x5 =>
          cond ((↑(List.length x5.2.1) : Int) == 0)
            (Option.bind (g37 x5.1) fun v6 =>
            cond (decide (List.length x5.2.1 + 1 ≤ 2147483647))
              (some (((x5.2.2.2.1, x5.2.1 ++ [v6]), 0)))
              (none))
            (some (((x5.2.2.2.1, x5.2.1), 0)))
        | .inr x5 =>
          some (x5))))
noncomputable def i40 : FI := ⟨ps40, .tup (.pr (.ty (.st (.pr (.i .i64) (.sl (.st (.pr (.i .i64) (.pr (.i .i64) (.sl .u8)))))))) (.ty (.i .i64))), fun ((a0_0, a0_1), a1) => g40 a0_0 a0_1 a1⟩
theorem s40_0 : st40_0 = stepEval T Y env40 an lv40 (finO T true ps40 (.tup (.pr (.ty (.st (.pr (.i .i64) (.sl (.st (.pr (.i .i64) (.pr (.i .i64) (.sl .u8)))))))) (.ty (.i .i64)))) Try.f40.results.toList) (loopAt c40 0) ns40_0 ex40_0 := by kernel_rfl
theorem e40 : (fun a => i40.G a) = fnEval T Y env40 an i40.ps i40.rs true Try.f40.results.toList lv40 c40 := by kernel_rfl
theorem lo40 : loopsOf c40 = [loopAt c40 0] := by kernel_rfl
theorem ll40 : LoopsOk T Y env40 an lv40 (finO T true ps40 (.tup (.pr (.ty (.st (.pr (.i .i64) (.sl (.st (.pr (.i .i64) (.pr (.i .i64) (.sl .u8)))))))) (.ty (.i .i64)))) Try.f40.results.toList) c40 := loopsOk_of (by rw [lo40]; exact ⟨loop1 (li := l40_0) (by kernel_rfl) (by kernel_rfl) s40_0, trivial⟩)
theorem k40 : FnOk Try.prog 40 i40 :=
  fn_ok (T := T) (Y := Y) (an := an) (env := env40) (fr := true) (lenv := lv40) mixed tok.1 tok.2 (envCons k41 (envCons k42 (envCons k59 (envCons k37 (envNil))))) (fn := Try.f40) (c := c40) (by kernel_rfl) (by kernel_rfl) (by kernel_rfl) ll40 (fun a => congrFun e40 a)
/-! ### broker/brokerref34.Open -/
noncomputable def c24 : Code := Try.f24.body.getD .skip
noncomputable def env24 : Env := mkEnv [(20, i20), (17, i17)]
abbrev ps24 : List PSh := [.d (.i .i64), .d (.sl (.st (.pr (.i .i64) (.pr (.i .i64) (.sl .u8)))))]
abbrev D24 : Type := pairD (.tup (.pr (.ty (.st (.pr (.i .i64) (.sl (.st (.pr (.i .i64) (.pr (.i .i64) (.sl .u8)))))))) (.ty (.i .i64)))) (osOf ps24)
def ns24_0 : NS := { slots := [(4, .pt 4 []), (0, .ty (.i .i64)), (1, .ty (.sl (.st (.pr (.i .i64) (.pr (.i .i64) (.sl .u8)))))), (8, .ty (.i .i64)), (9, .ty (.i .i64))], roots := [(4, .ty (.st (.pr (.i .i64) (.sl (.st (.pr (.i .i64) (.pr (.i .i64) (.sl .u8))))))))] }
def ex24_0 : List (Nat × NS) := [(0, { slots := [(4, .pt 4 []), (0, .ty (.i .i64)), (1, .ty (.sl (.st (.pr (.i .i64) (.pr (.i .i64) (.sl .u8)))))), (8, .ty (.i .i64))], roots := [(4, .ty (.st (.pr (.i .i64) (.sl (.st (.pr (.i .i64) (.pr (.i .i64) (.sl .u8))))))))] })]
noncomputable def st24_0 (ih : ((Int × (List (Int × Int × List UInt8)) × Int × Int) × (Int × List (Int × Int × List UInt8))) → Option (((Int × (List (Int × Int × List UInt8)) × Int) × (Int × List (Int × Int × List UInt8))) ⊕ (((Int × List (Int × Int × List UInt8)) × Int)))) : ((Int × (List (Int × Int × List UInt8)) × Int × Int) × (Int × List (Int × Int × List UInt8))) → Option (((Int × (List (Int × Int × List UInt8)) × Int) × (Int × List (Int × Int × List UInt8))) ⊕ (((Int × List (Int × Int × List UInt8)) × Int))) := fun ((t0, t1, t8, t9), (r4_0, r4_1)) =>
  cond (decide (t9 < (↑t1.length : Int)))
    (cond (decide (0 ≤ t9) && decide (t9 < (↑t1.length : Int)))
      (Option.bind (g17 (t1.getD t9.toNat (0, 0, [])).1 (t1.getD t9.toNat (0, 0, [])).2.1 (t1.getD t9.toNat (0, 0, [])).2.2) fun v1 =>
      cond (v1 != 0)
        (some (Sum.inr ((0, []), v1)))
        (cond (decide (t9 > 0))
          (cond (decide (0 ≤ t9) && decide (t9 < (↑t1.length : Int)))
            (cond (decide (0 ≤ IntKind.i64.wrap (t9 - 1)) && decide (IntKind.i64.wrap (t9 - 1) < (↑t1.length : Int)))
              (cond ((t1.getD t9.toNat (0, 0, [])).1 != (t1.getD (IntKind.i64.wrap (t9 - 1)).toNat (0, 0, [])).2.1)
                (some (Sum.inr ((0, []), 22)))
                (cond (decide (0 ≤ IntKind.i64.wrap (t9 - 1)) && decide (IntKind.i64.wrap (t9 - 1) < (↑t1.length : Int)))
                  (cond ((↑(List.length (t1.getD (IntKind.i64.wrap (t9 - 1)).toNat (0, 0, [])).2.2) : Int) == 0)
                    (some (Sum.inr ((0, []), 22)))
                    (cond (decide (0 ≤ t9) && decide (t9 < (↑t1.length : Int)))
                      (cond (decide (0 ≤ t9) && decide (t9 < (↑t1.length : Int)))
                        (ih ((t0, t1, IntKind.i64.wrap (IntKind.i64.wrap (t8 + (t1.getD t9.toNat (0, 0, [])).2.1) - (t1.getD t9.toNat (0, 0, [])).1), IntKind.i64.wrap (t9 + 1)), r4_0, r4_1))
                        (none))
                      (none)))
                  (none)))
              (none))
            (none))
          (cond (decide (0 ≤ t9) && decide (t9 < (↑t1.length : Int)))
            (cond (decide (0 ≤ t9) && decide (t9 < (↑t1.length : Int)))
              (ih ((t0, t1, IntKind.i64.wrap (IntKind.i64.wrap (t8 + (t1.getD t9.toNat (0, 0, [])).2.1) - (t1.getD t9.toNat (0, 0, [])).1), IntKind.i64.wrap (t9 + 1)), r4_0, r4_1))
              (none))
            (none))))
      (none))
    (some (Sum.inl ((t0, t1, t8), r4_0, r4_1)))
noncomputable def h24_0 : ((Int × (List (Int × Int × List UInt8)) × Int × Int) × (Int × List (Int × Int × List UInt8))) → Option (((Int × (List (Int × Int × List UInt8)) × Int) × (Int × List (Int × Int × List UInt8))) ⊕ (((Int × List (Int × Int × List UInt8)) × Int))) := loopN st24_0 fuel
noncomputable def l24_0 : LI D24 := ⟨ns24_0, ex24_0, h24_0⟩
noncomputable def lv24 : Nat → Option (LI D24) := fun q => if q = 6 then some l24_0 else (fun _ => none) q
noncomputable def g24 (a0 : Int) (a1 : List (Int × Int × List UInt8)) : Option ((Int × List (Int × Int × List UInt8)) × Int) :=
  Option.bind (g20 a0) fun v1 =>
  cond (v1.2 != 0)
    (some (v1))
    (cond ((↑a1.length : Int) == 0)
      (some (v1))
      (Option.bind (h24_0 ((a0, a1, 0, 0), 0, [])) fun v2 =>
      match v2 with
      | .inl x3 =>
        cond (decide (x3.1.2.2 > 4096))
          (some (((0, []), 6)))
          (cond (decide (0 + List.length x3.1.2.1 ≤ 2147483647))
            (some (((x3.1.1, [] ++ x3.1.2.1), 0)))
            (none))
      | .inr x3 =>
        some (x3)))
noncomputable def i24 : FI := ⟨ps24, .tup (.pr (.ty (.st (.pr (.i .i64) (.sl (.st (.pr (.i .i64) (.pr (.i .i64) (.sl .u8)))))))) (.ty (.i .i64))), fun (a0, a1) => g24 a0 a1⟩
theorem s24_0 : st24_0 = stepEval T Y env24 an lv24 (finO T true ps24 (.tup (.pr (.ty (.st (.pr (.i .i64) (.sl (.st (.pr (.i .i64) (.pr (.i .i64) (.sl .u8)))))))) (.ty (.i .i64)))) Try.f24.results.toList) (loopAt c24 0) ns24_0 ex24_0 := by kernel_rfl
theorem e24 : (fun a => i24.G a) = fnEval T Y env24 an i24.ps i24.rs true Try.f24.results.toList lv24 c24 := by kernel_rfl
theorem lo24 : loopsOf c24 = [loopAt c24 0] := by kernel_rfl
theorem ll24 : LoopsOk T Y env24 an lv24 (finO T true ps24 (.tup (.pr (.ty (.st (.pr (.i .i64) (.sl (.st (.pr (.i .i64) (.pr (.i .i64) (.sl .u8)))))))) (.ty (.i .i64)))) Try.f24.results.toList) c24 := loopsOk_of (by rw [lo24]; exact ⟨loop1 (li := l24_0) (by kernel_rfl) (by kernel_rfl) s24_0, trivial⟩)
theorem k24 : FnOk Try.prog 24 i24 :=
  fn_ok (T := T) (Y := Y) (an := an) (env := env24) (fr := true) (lenv := lv24) mixed tok.1 tok.2 (envCons k20 (envCons k17 (envNil))) (fn := Try.f24) (c := c24) (by kernel_rfl) (by kernel_rfl) (by kernel_rfl) ll24 (fun a => congrFun e24 a)
end Go.Proofs.Ytbncnkchedhnpaa.EVT
