/- What functions compute, as printed (U, part A). -/
import Derived.Test.YtehjeifbgegabaaTv13
import Derived.Test.YtehjeifbgegabaaUT
set_option linter.unusedVariables false
set_option maxRecDepth 100000
set_option maxHeartbeats 0
namespace Go.Proofs.Ytehjeifbgegabaa.EVT
open Go Go.EV
/-! ### broker/brokerref40.in -/
noncomputable def c20 : Code := Try.f20.body.getD .skip
noncomputable def env20 : Env := mkEnv []
abbrev ps20 : List PSh := [.d (.i .i64), .d (.i .i64), .d (.i .i64)]
abbrev D20 : Type := pairD (.ty .b) (osOf ps20)
noncomputable def lv20 : Nat → Option (LI D20) := fun _ => none
noncomputable def g20 (a0 : Int) (a1 : Int) (a2 : Int) : Option (Bool) :=
  cond (decide (a1 ≤ a0))
    (some (decide (a0 ≤ a2)))
    (some (false))
noncomputable def i20 : FI := ⟨ps20, .ty .b, fun (a0, a1, a2) => g20 a0 a1 a2⟩
theorem e20 : (fun a => i20.G a) = fnEval T Y env20 an i20.ps i20.rs true Try.f20.results.toList lv20 c20 := by kernel_rfl
theorem lo20 : loopsOf c20 = [] := by kernel_rfl
theorem ll20 : LoopsOk T Y env20 an lv20 (finO T true ps20 (.ty .b) Try.f20.results.toList) c20 := loopsOk_of (by rw [lo20]; exact trivial)
theorem k20 : FnOk Try.prog 20 i20 :=
  fn_ok (T := T) (Y := Y) (an := an) (env := env20) (fr := true) (lenv := lv20) mixed tok.1 tok.2 (envNil) (fn := Try.f20) (c := c20) (by kernel_rfl) (by kernel_rfl) (by kernel_rfl) ll20 (fun a => congrFun e20 a)
/-! ### broker/vote.New -/
noncomputable def c8 : Code := Try.f8.body.getD .skip
noncomputable def env8 : Env := mkEnv []
abbrev ps8 : List PSh := [.d (.i .i64), .d (.i .i64)]
abbrev D8 : Type := pairD (.tup (.pr (.ty (.st (.pr (.i .i64) (.pr (.i .i64) (.pr (.i .i64) (.pr (.i .i64) (.pr (.i .i64) (.pr (.i .i64) (.sl (.i .i64)))))))))) (.ty (.i .i64)))) (osOf ps8)
noncomputable def lv8 : Nat → Option (LI D8) := fun _ => none
noncomputable def g8 (a0 : Int) (a1 : Int) : Option ((Int × Int × Int × Int × Int × Int × List Int) × Int) :=
  cond (decide (a1 < 1))
    (some (((0, 0, 0, 0, 0, 0, []), 1)))
    (cond (decide (a1 > 7))
      (some (((0, 0, 0, 0, 0, 0, []), 1)))
      (cond (decide (a0 < 0))
        (some (((0, 0, 0, 0, 0, 0, []), 1)))
        (cond (decide (a0 ≥ a1))
          (some (((0, 0, 0, 0, 0, 0, []), 1)))
          (some (((a0, a1, 0, 0, -1, -1, []), 0))))))
noncomputable def i8 : FI := ⟨ps8, .tup (.pr (.ty (.st (.pr (.i .i64) (.pr (.i .i64) (.pr (.i .i64) (.pr (.i .i64) (.pr (.i .i64) (.pr (.i .i64) (.sl (.i .i64)))))))))) (.ty (.i .i64))), fun (a0, a1) => g8 a0 a1⟩
theorem e8 : (fun a => i8.G a) = fnEval T Y env8 an i8.ps i8.rs true Try.f8.results.toList lv8 c8 := by kernel_rfl
theorem lo8 : loopsOf c8 = [] := by kernel_rfl
theorem ll8 : LoopsOk T Y env8 an lv8 (finO T true ps8 (.tup (.pr (.ty (.st (.pr (.i .i64) (.pr (.i .i64) (.pr (.i .i64) (.pr (.i .i64) (.pr (.i .i64) (.pr (.i .i64) (.sl (.i .i64)))))))))) (.ty (.i .i64)))) Try.f8.results.toList) c8 := loopsOk_of (by rw [lo8]; exact trivial)
theorem k8 : FnOk Try.prog 8 i8 :=
  fn_ok (T := T) (Y := Y) (an := an) (env := env8) (fr := true) (lenv := lv8) mixed tok.1 tok.2 (envNil) (fn := Try.f8) (c := c8) (by kernel_rfl) (by kernel_rfl) (by kernel_rfl) ll8 (fun a => congrFun e8 a)
/-! ### broker/brokerref40.New -/
noncomputable def c9 : Code := Try.f9.body.getD .skip
noncomputable def env9 : Env := mkEnv [(20, i20)]
abbrev ps9 : List PSh := [.d (.i .i64), .d (.i .i64)]
abbrev D9 : Type := pairD (.tup (.pr (.ty (.st (.pr (.i .i64) (.pr (.i .i64) (.pr (.i .i64) (.pr (.i .i64) (.pr (.i .i64) (.pr (.i .i64) (.sl (.i .i64)))))))))) (.ty (.i .i64)))) (osOf ps9)
noncomputable def lv9 : Nat → Option (LI D9) := fun _ => none
noncomputable def g9 (a0 : Int) (a1 : Int) : Option ((Int × Int × Int × Int × Int × Int × List Int) × Int) :=
  Option.bind (g20 a1 1 7) fun v1 =>
  cond (!v1)
    (some (((0, 0, 0, 0, 0, 0, []), 1)))
    (Option.bind (g20 a0 0 (IntKind.i64.wrap (a1 - 1))) fun v2 =>
    cond (!v2)
      (some (((0, 0, 0, 0, 0, 0, []), 1)))
      (some (((a0, a1, 0, 0, -1, -1, []), 0))))
noncomputable def i9 : FI := ⟨ps9, .tup (.pr (.ty (.st (.pr (.i .i64) (.pr (.i .i64) (.pr (.i .i64) (.pr (.i .i64) (.pr (.i .i64) (.pr (.i .i64) (.sl (.i .i64)))))))))) (.ty (.i .i64))), fun (a0, a1) => g9 a0 a1⟩
theorem e9 : (fun a => i9.G a) = fnEval T Y env9 an i9.ps i9.rs true Try.f9.results.toList lv9 c9 := by kernel_rfl
theorem lo9 : loopsOf c9 = [] := by kernel_rfl
theorem ll9 : LoopsOk T Y env9 an lv9 (finO T true ps9 (.tup (.pr (.ty (.st (.pr (.i .i64) (.pr (.i .i64) (.pr (.i .i64) (.pr (.i .i64) (.pr (.i .i64) (.pr (.i .i64) (.sl (.i .i64)))))))))) (.ty (.i .i64)))) Try.f9.results.toList) c9 := loopsOk_of (by rw [lo9]; exact trivial)
theorem k9 : FnOk Try.prog 9 i9 :=
  fn_ok (T := T) (Y := Y) (an := an) (env := env9) (fr := true) (lenv := lv9) mixed tok.1 tok.2 (envCons k20 (envNil)) (fn := Try.f9) (c := c9) (by kernel_rfl) (by kernel_rfl) (by kernel_rfl) ll9 (fun a => congrFun e9 a)
/-! ### broker/member.Quorum -/
noncomputable def c28 : Code := Try.f28.body.getD .skip
noncomputable def env28 : Env := mkEnv []
abbrev ps28 : List PSh := [.d (.i .i64), .d (.i .i64)]
abbrev D28 : Type := pairD (.ty .b) (osOf ps28)
noncomputable def lv28 : Nat → Option (LI D28) := fun _ => none
noncomputable def g28 (a0 : Int) (a1 : Int) : Option (Bool) :=
  cond (decide (a1 ≥ 1))
    (some (decide (a0 > IntKind.i64.wrap (a1.tdiv 2))))
    (some (false))
noncomputable def i28 : FI := ⟨ps28, .ty .b, fun (a0, a1) => g28 a0 a1⟩
theorem e28 : (fun a => i28.G a) = fnEval T Y env28 an i28.ps i28.rs true Try.f28.results.toList lv28 c28 := by kernel_rfl
theorem lo28 : loopsOf c28 = [] := by kernel_rfl
theorem ll28 : LoopsOk T Y env28 an lv28 (finO T true ps28 (.ty .b) Try.f28.results.toList) c28 := loopsOk_of (by rw [lo28]; exact trivial)
theorem k28 : FnOk Try.prog 28 i28 :=
  fn_ok (T := T) (Y := Y) (an := an) (env := env28) (fr := true) (lenv := lv28) mixed tok.1 tok.2 (envNil) (fn := Try.f28) (c := c28) (by kernel_rfl) (by kernel_rfl) (by kernel_rfl) ll28 (fun a => congrFun e28 a)
/-! ### broker/brokerref39.Quorum -/
noncomputable def c37 : Code := Try.f37.body.getD .skip
noncomputable def env37 : Env := mkEnv []
abbrev ps37 : List PSh := [.d (.i .i64), .d (.i .i64)]
abbrev D37 : Type := pairD (.ty .b) (osOf ps37)
noncomputable def lv37 : Nat → Option (LI D37) := fun _ => none
noncomputable def g37 (a0 : Int) (a1 : Int) : Option (Bool) :=
  cond (decide (a1 ≥ 1))
    (some (decide (a0 > IntKind.i64.wrap (a1.tdiv 2))))
    (some (false))
noncomputable def i37 : FI := ⟨ps37, .ty .b, fun (a0, a1) => g37 a0 a1⟩
theorem e37 : (fun a => i37.G a) = fnEval T Y env37 an i37.ps i37.rs true Try.f37.results.toList lv37 c37 := by kernel_rfl
theorem lo37 : loopsOf c37 = [] := by kernel_rfl
theorem ll37 : LoopsOk T Y env37 an lv37 (finO T true ps37 (.ty .b) Try.f37.results.toList) c37 := loopsOk_of (by rw [lo37]; exact trivial)
theorem k37 : FnOk Try.prog 37 i37 :=
  fn_ok (T := T) (Y := Y) (an := an) (env := env37) (fr := true) (lenv := lv37) mixed tok.1 tok.2 (envNil) (fn := Try.f37) (c := c37) (by kernel_rfl) (by kernel_rfl) (by kernel_rfl) ll37 (fun a => congrFun e37 a)
/-! ### slices.Equal[[]int,int] -/
noncomputable def c21 : Code := Try.f21.body.getD .skip
noncomputable def env21 : Env := mkEnv []
abbrev ps21 : List PSh := [.d (.sl (.i .i64)), .d (.sl (.i .i64))]
abbrev D21 : Type := pairD (.ty .b) (osOf ps21)
def ns21_0 : NS := { slots := [(0, .ty (.sl (.i .i64))), (1, .ty (.sl (.i .i64))), (12, .ty (.i .i64)), (13, .ty (.i .i64))], roots := [] }
def ex21_0 : List (Nat × NS) := [(0, { slots := [], roots := [] })]
noncomputable def st21_0 (ih : ((List Int × List Int × Int × Int) × (Unit)) → Option (((Unit) × (Unit)) ⊕ Bool)) : ((List Int × List Int × Int × Int) × (Unit)) → Option (((Unit) × (Unit)) ⊕ Bool) := fun ((t0, t1, t12, t13), ()) =>
  cond (decide (t13 < t12))
    (cond (decide (0 ≤ t13) && decide (t13 < (↑t0.length : Int)))
      (cond (decide (0 ≤ t13) && decide (t13 < (↑t1.length : Int)))
        (cond (t0.getD t13.toNat 0 != t1.getD t13.toNat 0)
          (some (Sum.inr false))
          (ih ((t0, t1, t12, IntKind.i64.wrap (t13 + 1)), ())))
        (none))
      (none))
    (some (Sum.inl ((), ())))
noncomputable def h21_0 : ((List Int × List Int × Int × Int) × (Unit)) → Option (((Unit) × (Unit)) ⊕ Bool) := loopN st21_0 fuel
noncomputable def l21_0 : LI D21 := ⟨ns21_0, ex21_0, h21_0⟩
noncomputable def lv21 : Nat → Option (LI D21) := fun q => if q = 4 then some l21_0 else (fun _ => none) q
noncomputable def g21 (a0 : List Int) (a1 : List Int) : Option (Bool) :=
  cond ((↑a0.length : Int) != (↑a1.length : Int))
    (some (false))
    (Option.bind (h21_0 ((a0, a1, (↑a0.length : Int), 0), ())) fun v1 =>
    match v1 with
    | .inl x2 =>
      some (true)
    | .inr x2 =>
      some (x2))
noncomputable def i21 : FI := ⟨ps21, .ty .b, fun (a0, a1) => g21 a0 a1⟩
theorem s21_0 : st21_0 = stepEval T Y env21 an lv21 (finO T true ps21 (.ty .b) Try.f21.results.toList) (loopAt c21 0) ns21_0 ex21_0 := by kernel_rfl
theorem e21 : (fun a => i21.G a) = fnEval T Y env21 an i21.ps i21.rs true Try.f21.results.toList lv21 c21 := by kernel_rfl
theorem lo21 : loopsOf c21 = [loopAt c21 0] := by kernel_rfl
theorem ll21 : LoopsOk T Y env21 an lv21 (finO T true ps21 (.ty .b) Try.f21.results.toList) c21 := loopsOk_of (by rw [lo21]; exact ⟨loop1 (li := l21_0) (by kernel_rfl) (by kernel_rfl) s21_0, trivial⟩)
theorem k21 : FnOk Try.prog 21 i21 :=
  fn_ok (T := T) (Y := Y) (an := an) (env := env21) (fr := true) (lenv := lv21) mixed tok.1 tok.2 (envNil) (fn := Try.f21) (c := c21) (by kernel_rfl) (by kernel_rfl) (by kernel_rfl) ll21 (fun a => congrFun e21 a)
/-! ### slices.Index[[]int,int] -/
noncomputable def c44 : Code := Try.f44.body.getD .skip
noncomputable def env44 : Env := mkEnv []
abbrev ps44 : List PSh := [.d (.sl (.i .i64)), .d (.i .i64)]
abbrev D44 : Type := pairD (.ty (.i .i64)) (osOf ps44)
def ns44_0 : NS := { slots := [(0, .ty (.sl (.i .i64))), (1, .ty (.i .i64)), (7, .ty (.i .i64)), (8, .ty (.i .i64))], roots := [] }
def ex44_0 : List (Nat × NS) := [(0, { slots := [], roots := [] })]
noncomputable def st44_0 (ih : ((List Int × Int × Int × Int) × (Unit)) → Option (((Unit) × (Unit)) ⊕ Int)) : ((List Int × Int × Int × Int) × (Unit)) → Option (((Unit) × (Unit)) ⊕ Int) := fun ((t0, t1, t7, t8), ()) =>
  cond (decide (t8 < t7))
    (cond (decide (0 ≤ t8) && decide (t8 < (↑t0.length : Int)))
      (cond (t1 == t0.getD t8.toNat 0)
        (some (Sum.inr t8))
        (ih ((t0, t1, t7, IntKind.i64.wrap (t8 + 1)), ())))
      (none))
    (some (Sum.inl ((), ())))
noncomputable def h44_0 : ((List Int × Int × Int × Int) × (Unit)) → Option (((Unit) × (Unit)) ⊕ Int) := loopN st44_0 fuel
noncomputable def l44_0 : LI D44 := ⟨ns44_0, ex44_0, h44_0⟩
noncomputable def lv44 : Nat → Option (LI D44) := fun q => if q = 2 then some l44_0 else (fun _ => none) q
noncomputable def g44 (a0 : List Int) (a1 : Int) : Option (Int) :=
  Option.bind (h44_0 ((a0, a1, (↑a0.length : Int), 0), ())) fun v1 =>
  match v1 with
  | .inl x2 =>
    some (-1)
  | .inr x2 =>
    some (x2)
noncomputable def i44 : FI := ⟨ps44, .ty (.i .i64), fun (a0, a1) => g44 a0 a1⟩
theorem s44_0 : st44_0 = stepEval T Y env44 an lv44 (finO T true ps44 (.ty (.i .i64)) Try.f44.results.toList) (loopAt c44 0) ns44_0 ex44_0 := by kernel_rfl
theorem e44 : (fun a => i44.G a) = fnEval T Y env44 an i44.ps i44.rs true Try.f44.results.toList lv44 c44 := by kernel_rfl
theorem lo44 : loopsOf c44 = [loopAt c44 0] := by kernel_rfl
theorem ll44 : LoopsOk T Y env44 an lv44 (finO T true ps44 (.ty (.i .i64)) Try.f44.results.toList) c44 := loopsOk_of (by rw [lo44]; exact ⟨loop1 (li := l44_0) (by kernel_rfl) (by kernel_rfl) s44_0, trivial⟩)
theorem k44 : FnOk Try.prog 44 i44 :=
  fn_ok (T := T) (Y := Y) (an := an) (env := env44) (fr := true) (lenv := lv44) mixed tok.1 tok.2 (envNil) (fn := Try.f44) (c := c44) (by kernel_rfl) (by kernel_rfl) (by kernel_rfl) ll44 (fun a => congrFun e44 a)
/-! ### slices.Contains[[]int,int] -/
noncomputable def c36 : Code := Try.f36.body.getD .skip
noncomputable def env36 : Env := mkEnv [(44, i44)]
abbrev ps36 : List PSh := [.d (.sl (.i .i64)), .d (.i .i64)]
abbrev D36 : Type := pairD (.ty .b) (osOf ps36)
noncomputable def lv36 : Nat → Option (LI D36) := fun _ => none
noncomputable def g36 (a0 : List Int) (a1 : Int) : Option (Bool) :=
  Option.bind (g44 a0 a1) fun v1 =>
  some (decide (v1 ≥ 0))
noncomputable def i36 : FI := ⟨ps36, .ty .b, fun (a0, a1) => g36 a0 a1⟩
theorem e36 : (fun a => i36.G a) = fnEval T Y env36 an i36.ps i36.rs true Try.f36.results.toList lv36 c36 := by kernel_rfl
theorem lo36 : loopsOf c36 = [] := by kernel_rfl
theorem ll36 : LoopsOk T Y env36 an lv36 (finO T true ps36 (.ty .b) Try.f36.results.toList) c36 := loopsOk_of (by rw [lo36]; exact trivial)
theorem k36 : FnOk Try.prog 36 i36 :=
  fn_ok (T := T) (Y := Y) (an := an) (env := env36) (fr := true) (lenv := lv36) mixed tok.1 tok.2 (envCons k44 (envNil)) (fn := Try.f36) (c := c36) (by kernel_rfl) (by kernel_rfl) (by kernel_rfl) ll36 (fun a => congrFun e36 a)
/-! ### broker/vote.consistent -/
noncomputable def c22 : Code := Try.f22.body.getD .skip
noncomputable def env22 : Env := mkEnv [(36, i36), (28, i28)]
abbrev ps22 : List PSh := [.d (.st (.pr (.i .i64) (.pr (.i .i64) (.pr (.i .i64) (.pr (.i .i64) (.pr (.i .i64) (.pr (.i .i64) (.sl (.i .i64)))))))))]
abbrev D22 : Type := pairD (.ty .b) (osOf ps22)
noncomputable def lv22 : Nat → Option (LI D22) := fun _ => none
noncomputable def g22 (a0_0 : Int) (a0_1 : Int) (a0_2 : Int) (a0_3 : Int) (a0_4 : Int) (a0_5 : Int) (a0_6 : List Int) : Option (Bool) :=
  cond (a0_2 == 0)
    (cond (a0_3 != 0)
      (some (false))
      (cond (a0_4 != -1)
        (some (false))
        (cond (a0_5 != -1)
          (some (false))
          (cond (a0_3 == 1)
            (cond (a0_4 == a0_0)
              (cond (a0_5 == -1)
                (Option.bind (g36 a0_6 a0_0) fun v1 =>
                cond (v1)
                  (Option.bind (g28 (↑a0_6.length : Int) a0_1) fun v2 =>
                  some (!v2))
                  (some (false)))
                (some (false)))
              (some (false)))
            (cond (a0_3 == 2)
              (cond (a0_4 == a0_0)
                (cond (a0_5 == a0_0)
                  (some ((↑a0_6.length : Int) == 0))
                  (some (false)))
                (some (false)))
              (cond ((↑a0_6.length : Int) == 0)
                (some (a0_5 != a0_0))
                (some (false))))))))
    (cond (a0_3 == 1)
      (cond (a0_4 == a0_0)
        (cond (a0_5 == -1)
          (Option.bind (g36 a0_6 a0_0) fun v3 =>
          cond (v3)
            (Option.bind (g28 (↑a0_6.length : Int) a0_1) fun v4 =>
            some (!v4))
            (some (false)))
          (some (false)))
        (some (false)))
      (cond (a0_3 == 2)
        (cond (a0_4 == a0_0)
          (cond (a0_5 == a0_0)
            (some ((↑a0_6.length : Int) == 0))
            (some (false)))
          (some (false)))
        (cond ((↑a0_6.length : Int) == 0)
          (some (a0_5 != a0_0))
          (some (false)))))
noncomputable def i22 : FI := ⟨ps22, .ty .b, fun (a0_0, a0_1, a0_2, a0_3, a0_4, a0_5, a0_6) => g22 a0_0 a0_1 a0_2 a0_3 a0_4 a0_5 a0_6⟩
theorem e22 : (fun a => i22.G a) = fnEval T Y env22 an i22.ps i22.rs true Try.f22.results.toList lv22 c22 := by kernel_rfl
theorem lo22 : loopsOf c22 = [] := by kernel_rfl
theorem ll22 : LoopsOk T Y env22 an lv22 (finO T true ps22 (.ty .b) Try.f22.results.toList) c22 := loopsOk_of (by rw [lo22]; exact trivial)
theorem k22 : FnOk Try.prog 22 i22 :=
  fn_ok (T := T) (Y := Y) (an := an) (env := env22) (fr := true) (lenv := lv22) mixed tok.1 tok.2 (envCons k36 (envCons k28 (envNil))) (fn := Try.f22) (c := c22) (by kernel_rfl) (by kernel_rfl) (by kernel_rfl) ll22 (fun a => congrFun e22 a)
/-! ### broker/brokerref40.role -/
noncomputable def c23 : Code := Try.f23.body.getD .skip
noncomputable def env23 : Env := mkEnv [(36, i36), (37, i37)]
abbrev ps23 : List PSh := [.d (.st (.pr (.i .i64) (.pr (.i .i64) (.pr (.i .i64) (.pr (.i .i64) (.pr (.i .i64) (.pr (.i .i64) (.sl (.i .i64)))))))))]
abbrev D23 : Type := pairD (.ty .b) (osOf ps23)
noncomputable def lv23 : Nat → Option (LI D23) := fun _ => none
noncomputable def g23 (a0_0 : Int) (a0_1 : Int) (a0_2 : Int) (a0_3 : Int) (a0_4 : Int) (a0_5 : Int) (a0_6 : List Int) : Option (Bool) :=
  cond (a0_2 == 0)
    (cond (a0_3 != 0)
      (some (false))
      (cond (a0_4 != -1)
        (some (false))
        (cond (a0_5 != -1)
          (some (false))
          (cond (a0_3 == 0)
            (cond ((↑a0_6.length : Int) == 0)
              (some (a0_5 != a0_0))
              (some (false)))
            (cond (a0_3 == 1)
              (cond (a0_4 == a0_0)
                (cond (a0_5 == -1)
                  (Option.bind (g36 a0_6 a0_0) fun v1 =>
                  cond (v1)
                    (Option.bind (g37 (↑a0_6.length : Int) a0_1) fun v2 =>
                    some (!v2))
                    (some (false)))
                  (some (false)))
                (some (false)))
              (cond (a0_4 == a0_0)
                (cond (a0_5 == a0_0)
                  (some ((↑a0_6.length : Int) == 0))
                  (some (false)))
                (some (false))))))))
    (cond (a0_3 == 0)
      (cond ((↑a0_6.length : Int) == 0)
        (some (a0_5 != a0_0))
        (some (false)))
      (cond (a0_3 == 1)
        (cond (a0_4 == a0_0)
          (cond (a0_5 == -1)
            (Option.bind (g36 a0_6 a0_0) fun v3 =>
            cond (v3)
              (Option.bind (g37 (↑a0_6.length : Int) a0_1) fun v4 =>
              some (!v4))
              (some (false)))
            (some (false)))
          (some (false)))
        (cond (a0_4 == a0_0)
          (cond (a0_5 == a0_0)
            (some ((↑a0_6.length : Int) == 0))
            (some (false)))
          (some (false)))))
noncomputable def i23 : FI := ⟨ps23, .ty .b, fun (a0_0, a0_1, a0_2, a0_3, a0_4, a0_5, a0_6) => g23 a0_0 a0_1 a0_2 a0_3 a0_4 a0_5 a0_6⟩
theorem e23 : (fun a => i23.G a) = fnEval T Y env23 an i23.ps i23.rs true Try.f23.results.toList lv23 c23 := by kernel_rfl
theorem lo23 : loopsOf c23 = [] := by kernel_rfl
theorem ll23 : LoopsOk T Y env23 an lv23 (finO T true ps23 (.ty .b) Try.f23.results.toList) c23 := loopsOk_of (by rw [lo23]; exact trivial)
theorem k23 : FnOk Try.prog 23 i23 :=
  fn_ok (T := T) (Y := Y) (an := an) (env := env23) (fr := true) (lenv := lv23) mixed tok.1 tok.2 (envCons k36 (envCons k37 (envNil))) (fn := Try.f23) (c := c23) (by kernel_rfl) (by kernel_rfl) (by kernel_rfl) ll23 (fun a => congrFun e23 a)
/-! ### broker/brokerref40.Same -/
noncomputable def c10 : Code := Try.f10.body.getD .skip
noncomputable def env10 : Env := mkEnv [(21, i21)]
abbrev ps10 : List PSh := [.d (.st (.pr (.i .i64) (.pr (.i .i64) (.pr (.i .i64) (.pr (.i .i64) (.pr (.i .i64) (.pr (.i .i64) (.sl (.i .i64))))))))), .d (.st (.pr (.i .i64) (.pr (.i .i64) (.pr (.i .i64) (.pr (.i .i64) (.pr (.i .i64) (.pr (.i .i64) (.sl (.i .i64)))))))))]
abbrev D10 : Type := pairD (.ty .b) (osOf ps10)
noncomputable def lv10 : Nat → Option (LI D10) := fun _ => none
noncomputable def g10 (a0_0 : Int) (a0_1 : Int) (a0_2 : Int) (a0_3 : Int) (a0_4 : Int) (a0_5 : Int) (a0_6 : List Int) (a1_0 : Int) (a1_1 : Int) (a1_2 : Int) (a1_3 : Int) (a1_4 : Int) (a1_5 : Int) (a1_6 : List Int) : Option (Bool) :=
  cond (a0_0 == a1_0)
    (cond (a0_1 == a1_1)
      (cond (a0_2 == a1_2)
        (cond (a0_3 == a1_3)
          (cond (a0_4 == a1_4)
            (cond (a0_5 == a1_5)
              (Option.bind (g21 a0_6 a1_6) fun v1 =>
              some (v1))
              (some (false)))
            (some (false)))
          (some (false)))
        (some (false)))
      (some (false)))
    (some (false))
noncomputable def i10 : FI := ⟨ps10, .ty .b, fun ((a0_0, a0_1, a0_2, a0_3, a0_4, a0_5, a0_6), (a1_0, a1_1, a1_2, a1_3, a1_4, a1_5, a1_6)) => g10 a0_0 a0_1 a0_2 a0_3 a0_4 a0_5 a0_6 a1_0 a1_1 a1_2 a1_3 a1_4 a1_5 a1_6⟩
theorem e10 : (fun a => i10.G a) = fnEval T Y env10 an i10.ps i10.rs true Try.f10.results.toList lv10 c10 := by kernel_rfl
theorem lo10 : loopsOf c10 = [] := by kernel_rfl
theorem ll10 : LoopsOk T Y env10 an lv10 (finO T true ps10 (.ty .b) Try.f10.results.toList) c10 := loopsOk_of (by rw [lo10]; exact trivial)
theorem k10 : FnOk Try.prog 10 i10 :=
  fn_ok (T := T) (Y := Y) (an := an) (env := env10) (fr := true) (lenv := lv10) mixed tok.1 tok.2 (envCons k21 (envNil)) (fn := Try.f10) (c := c10) (by kernel_rfl) (by kernel_rfl) (by kernel_rfl) ll10 (fun a => congrFun e10 a)
/-! ### broker/vote.Check -/
noncomputable def c11 : Code := Try.f11.body.getD .skip
noncomputable def env11 : Env := mkEnv [(8, i8), (22, i22)]
abbrev ps11 : List PSh := [.d (.st (.pr (.i .i64) (.pr (.i .i64) (.pr (.i .i64) (.pr (.i .i64) (.pr (.i .i64) (.pr (.i .i64) (.sl (.i .i64)))))))))]
abbrev D11 : Type := pairD (.ty (.i .i64)) (osOf ps11)
def ns11_0 : NS := { slots := [(1, .pt 1 []), (62, .ty (.sl (.i .i64))), (63, .ty (.i .i64)), (64, .ty (.i .i64))], roots := [(1, .ty (.st (.pr (.i .i64) (.pr (.i .i64) (.pr (.i .i64) (.pr (.i .i64) (.pr (.i .i64) (.pr (.i .i64) (.sl (.i .i64))))))))))] }
def ex11_0 : List (Nat × NS) := [(0, { slots := [(1, .pt 1 [])], roots := [(1, .ty (.st (.pr (.i .i64) (.pr (.i .i64) (.pr (.i .i64) (.pr (.i .i64) (.pr (.i .i64) (.pr (.i .i64) (.sl (.i .i64))))))))))] })]
noncomputable def st11_0 (ih : ((List Int × Int × Int) × (Int × Int × Int × Int × Int × Int × List Int)) → Option (((Unit) × (Int × Int × Int × Int × Int × Int × List Int)) ⊕ Int)) : ((List Int × Int × Int) × (Int × Int × Int × Int × Int × Int × List Int)) → Option (((Unit) × (Int × Int × Int × Int × Int × Int × List Int)) ⊕ Int) := fun ((t62, t63, t64), (r1_0, r1_1, r1_2, r1_3, r1_4, r1_5, r1_6)) =>
  cond (decide (t64 < t63))
    (cond (decide (0 ≤ t64) && decide (t64 < (↑t62.length : Int)))
      (cond (decide (t62.getD t64.toNat 0 < 0))
        (some (Sum.inr 1))
        (cond (decide (t62.getD t64.toNat 0 ≥ r1_1))
          (some (Sum.inr 1))
          (cond (decide (t64 > 0))
            (cond (decide (0 ≤ IntKind.i64.wrap (t64 - 1)) && decide (IntKind.i64.wrap (t64 - 1) < (↑r1_6.length : Int)))
              (cond (decide (t62.getD t64.toNat 0 ≤ r1_6.getD (IntKind.i64.wrap (t64 - 1)).toNat 0))
                (some (Sum.inr 22))
                (ih ((t62, t63, IntKind.i64.wrap (t64 + 1)), r1_0, r1_1, r1_2, r1_3, r1_4, r1_5, r1_6)))
              (none))
            (ih ((t62, t63, IntKind.i64.wrap (t64 + 1)), r1_0, r1_1, r1_2, r1_3, r1_4, r1_5, r1_6)))))
      (none))
    (some (Sum.inl ((), r1_0, r1_1, r1_2, r1_3, r1_4, r1_5, r1_6)))
noncomputable def h11_0 : ((List Int × Int × Int) × (Int × Int × Int × Int × Int × Int × List Int)) → Option (((Unit) × (Int × Int × Int × Int × Int × Int × List Int)) ⊕ Int) := loopN st11_0 fuel
noncomputable def l11_0 : LI D11 := ⟨ns11_0, ex11_0, h11_0⟩
noncomputable def lv11 : Nat → Option (LI D11) := fun q => if q = 11 then some l11_0 else (fun _ => none) q
noncomputable def g11 (a0_0 : Int) (a0_1 : Int) (a0_2 : Int) (a0_3 : Int) (a0_4 : Int) (a0_5 : Int) (a0_6 : List Int) : Option (Int) :=
  Option.bind (g8 a0_0 a0_1) fun v1 =>
  cond (v1.2 != 0)
    (some (v1.2))
    (cond (decide (a0_2 < 0))
      (some (1))
      (cond (decide (a0_2 > 1099511627776))
        (some (1))
        (cond (a0_3 != 0)
          (cond (a0_3 != 1)
            (cond (a0_3 != 2)
              (some (10))
              (cond (decide (a0_4 < -1))
                (some (1))
                (cond (decide (a0_4 ≥ a0_1))
                  (some (1))
                  (cond (decide (a0_5 < -1))
                    (some (1))
                    (cond (decide (a0_5 ≥ a0_1))
                      (some (1))
                      (Option.bind (h11_0 ((a0_6, (↑a0_6.length : Int), 0), a0_0, a0_1, a0_2, a0_3, a0_4, a0_5, a0_6)) fun v2 =>
                      match v2 with
                      | .inl x3 =>
                        Option.bind (g22 x3.2.1 x3.2.2.1 x3.2.2.2.1 x3.2.2.2.2.1 x3.2.2.2.2.2.1 x3.2.2.2.2.2.2.1 x3.2.2.2.2.2.2.2) fun v4 =>
                        cond (!v4)
                          (some (9))
                          (some (0))
                      | .inr x3 =>
                        some (x3)))))))
            (cond (decide (a0_4 < -1))
              (some (1))
              (cond (decide (a0_4 ≥ a0_1))
                (some (1))
                (cond (decide (a0_5 < -1))
                  (some (1))
                  (cond (decide (a0_5 ≥ a0_1))
                    (some (1))
                    (Option.bind (h11_0 ((a0_6, (↑a0_6.length : Int), 0), a0_0, a0_1, a0_2, a0_3, a0_4, a0_5, a0_6)) fun v5 =>
                    match v5 with
                    | .inl x6 =>
                      Option.bind (g22 x6.2.1 x6.2.2.1 x6.2.2.2.1 x6.2.2.2.2.1 x6.2.2.2.2.2.1 x6.2.2.2.2.2.2.1 x6.2.2.2.2.2.2.2) fun v7 =>
                      cond (!v7)
                        (some (9))
                        (some (0))
                    | .inr x6 =>
                      some (x6)))))))
          (cond (decide (a0_4 < -1))
            (some (1))
            (cond (decide (a0_4 ≥ a0_1))
              (some (1))
              (cond (decide (a0_5 < -1))
                (some (1))
                (cond (decide (a0_5 ≥ a0_1))
                  (some (1))
                  (Option.bind (h11_0 ((a0_6, (↑a0_6.length : Int), 0), a0_0, a0_1, a0_2, a0_3, a0_4, a0_5, a0_6)) fun v8 =>
                  match v8 with
                  | .inl x9 =>
                    Option.bind (g22 x9.2.1 x9.2.2.1 x9.2.2.2.1 x9.2.2.2.2.1 x9.2.2.2.2.2.1 x9.2.2.2.2.2.2.1 x9.2.2.2.2.2.2.2) fun v10 =>
                    cond (!v10)
                      (some (9))
                      (some (0))
                  | .inr x9 =>
                    some (x9)))))))))
noncomputable def i11 : FI := ⟨ps11, .ty (.i .i64), fun (a0_0, a0_1, a0_2, a0_3, a0_4, a0_5, a0_6) => g11 a0_0 a0_1 a0_2 a0_3 a0_4 a0_5 a0_6⟩
theorem s11_0 : st11_0 = stepEval T Y env11 an lv11 (finO T true ps11 (.ty (.i .i64)) Try.f11.results.toList) (loopAt c11 0) ns11_0 ex11_0 := by kernel_rfl
theorem e11 : (fun a => i11.G a) = fnEval T Y env11 an i11.ps i11.rs true Try.f11.results.toList lv11 c11 := by kernel_rfl
theorem lo11 : loopsOf c11 = [loopAt c11 0] := by kernel_rfl
theorem ll11 : LoopsOk T Y env11 an lv11 (finO T true ps11 (.ty (.i .i64)) Try.f11.results.toList) c11 := loopsOk_of (by rw [lo11]; exact ⟨loop1 (li := l11_0) (by kernel_rfl) (by kernel_rfl) s11_0, trivial⟩)
theorem k11 : FnOk Try.prog 11 i11 :=
  fn_ok (T := T) (Y := Y) (an := an) (env := env11) (fr := true) (lenv := lv11) mixed tok.1 tok.2 (envCons k8 (envCons k22 (envNil))) (fn := Try.f11) (c := c11) (by kernel_rfl) (by kernel_rfl) (by kernel_rfl) ll11 (fun a => congrFun e11 a)
/-! ### broker/brokerref40.Check -/
noncomputable def c12 : Code := Try.f12.body.getD .skip
noncomputable def env12 : Env := mkEnv [(20, i20), (23, i23)]
abbrev ps12 : List PSh := [.d (.st (.pr (.i .i64) (.pr (.i .i64) (.pr (.i .i64) (.pr (.i .i64) (.pr (.i .i64) (.pr (.i .i64) (.sl (.i .i64)))))))))]
abbrev D12 : Type := pairD (.ty (.i .i64)) (osOf ps12)
def ns12_0 : NS := { slots := [(1, .pt 1 []), (45, .ty (.sl (.i .i64))), (46, .ty (.i .i64)), (47, .ty (.i .i64))], roots := [(1, .ty (.st (.pr (.i .i64) (.pr (.i .i64) (.pr (.i .i64) (.pr (.i .i64) (.pr (.i .i64) (.pr (.i .i64) (.sl (.i .i64))))))))))] }
def ex12_0 : List (Nat × NS) := [(0, { slots := [(1, .pt 1 [])], roots := [(1, .ty (.st (.pr (.i .i64) (.pr (.i .i64) (.pr (.i .i64) (.pr (.i .i64) (.pr (.i .i64) (.pr (.i .i64) (.sl (.i .i64))))))))))] })]
noncomputable def st12_0 (ih : ((List Int × Int × Int) × (Int × Int × Int × Int × Int × Int × List Int)) → Option (((Unit) × (Int × Int × Int × Int × Int × Int × List Int)) ⊕ Int)) : ((List Int × Int × Int) × (Int × Int × Int × Int × Int × Int × List Int)) → Option (((Unit) × (Int × Int × Int × Int × Int × Int × List Int)) ⊕ Int) := fun ((t45, t46, t47), (r1_0, r1_1, r1_2, r1_3, r1_4, r1_5, r1_6)) =>
  cond (decide (t47 < t46))
    (cond (decide (0 ≤ t47) && decide (t47 < (↑t45.length : Int)))
      (Option.bind (g20 (t45.getD t47.toNat 0) 0 (IntKind.i64.wrap (r1_1 - 1))) fun v1 =>
      cond (!v1)
        (some (Sum.inr 1))
        (cond (decide (t47 > 0))
          (cond (decide (0 ≤ IntKind.i64.wrap (t47 - 1)) && decide (IntKind.i64.wrap (t47 - 1) < (↑r1_6.length : Int)))
            (cond (decide (t45.getD t47.toNat 0 ≤ r1_6.getD (IntKind.i64.wrap (t47 - 1)).toNat 0))
              (some (Sum.inr 22))
              (ih ((t45, t46, IntKind.i64.wrap (t47 + 1)), r1_0, r1_1, r1_2, r1_3, r1_4, r1_5, r1_6)))
            (none))
          (ih ((t45, t46, IntKind.i64.wrap (t47 + 1)), r1_0, r1_1, r1_2, r1_3, r1_4, r1_5, r1_6))))
      (none))
    (some (Sum.inl ((), r1_0, r1_1, r1_2, r1_3, r1_4, r1_5, r1_6)))
noncomputable def h12_0 : ((List Int × Int × Int) × (Int × Int × Int × Int × Int × Int × List Int)) → Option (((Unit) × (Int × Int × Int × Int × Int × Int × List Int)) ⊕ Int) := loopN st12_0 fuel
noncomputable def l12_0 : LI D12 := ⟨ns12_0, ex12_0, h12_0⟩
noncomputable def lv12 : Nat → Option (LI D12) := fun q => if q = 8 then some l12_0 else (fun _ => none) q
noncomputable def g12 (a0_0 : Int) (a0_1 : Int) (a0_2 : Int) (a0_3 : Int) (a0_4 : Int) (a0_5 : Int) (a0_6 : List Int) : Option (Int) :=
  Option.bind (g20 a0_1 1 7) fun v1 =>
  cond (!v1)
    (some (1))
    (Option.bind (g20 a0_0 0 (IntKind.i64.wrap (a0_1 - 1))) fun v2 =>
    cond (!v2)
      (some (1))
      (Option.bind (g20 a0_2 0 1099511627776) fun v3 =>
      cond (!v3)
        (some (1))
        (Option.bind (g20 a0_3 0 2) fun v4 =>
        cond (!v4)
          (some (10))
          (Option.bind (g20 a0_4 (-1) (IntKind.i64.wrap (a0_1 - 1))) fun v5 =>
          cond (!v5)
            (some (1))
            (Option.bind (g20 a0_5 (-1) (IntKind.i64.wrap (a0_1 - 1))) fun v6 =>
            cond (!v6)
              (some (1))
              (Option.bind (h12_0 ((a0_6, (↑a0_6.length : Int), 0), a0_0, a0_1, a0_2, a0_3, a0_4, a0_5, a0_6)) fun v7 =>
              match v7 with
              | .inl x8 =>
                Option.bind (g23 x8.2.1 x8.2.2.1 x8.2.2.2.1 x8.2.2.2.2.1 x8.2.2.2.2.2.1 x8.2.2.2.2.2.2.1 x8.2.2.2.2.2.2.2) fun v9 =>
                cond (!v9)
                  (some (9))
                  (some (0))
              | .inr x8 =>
                some (x8)))))))
noncomputable def i12 : FI := ⟨ps12, .ty (.i .i64), fun (a0_0, a0_1, a0_2, a0_3, a0_4, a0_5, a0_6) => g12 a0_0 a0_1 a0_2 a0_3 a0_4 a0_5 a0_6⟩
theorem s12_0 : st12_0 = stepEval T Y env12 an lv12 (finO T true ps12 (.ty (.i .i64)) Try.f12.results.toList) (loopAt c12 0) ns12_0 ex12_0 := by kernel_rfl
theorem e12 : (fun a => i12.G a) = fnEval T Y env12 an i12.ps i12.rs true Try.f12.results.toList lv12 c12 := by kernel_rfl
theorem lo12 : loopsOf c12 = [loopAt c12 0] := by kernel_rfl
theorem ll12 : LoopsOk T Y env12 an lv12 (finO T true ps12 (.ty (.i .i64)) Try.f12.results.toList) c12 := loopsOk_of (by rw [lo12]; exact ⟨loop1 (li := l12_0) (by kernel_rfl) (by kernel_rfl) s12_0, trivial⟩)
theorem k12 : FnOk Try.prog 12 i12 :=
  fn_ok (T := T) (Y := Y) (an := an) (env := env12) (fr := true) (lenv := lv12) mixed tok.1 tok.2 (envCons k20 (envCons k23 (envNil))) (fn := Try.f12) (c := c12) (by kernel_rfl) (by kernel_rfl) (by kernel_rfl) ll12 (fun a => congrFun e12 a)
end Go.Proofs.Ytehjeifbgegabaa.EVT
