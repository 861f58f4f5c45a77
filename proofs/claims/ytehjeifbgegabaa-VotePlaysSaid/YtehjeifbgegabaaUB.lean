/- What functions compute, as printed (U, part B). -/
import Derived.Test.YtehjeifbgegabaaUA
import Derived.Test.YtehjeifbgegabaaUC
set_option linter.unusedVariables false
set_option maxRecDepth 100000
set_option maxHeartbeats 0
namespace Go.Proofs.Ytehjeifbgegabaa.EVT
open Go Go.EV
/-! ### broker/vote.clone -/
noncomputable def c24 : Code := Try.f24.body.getD .skip
noncomputable def env24 : Env := mkEnv [(38, i38)]
abbrev ps24 : List PSh := [.d (.st (.pr (.i .i64) (.pr (.i .i64) (.pr (.i .i64) (.pr (.i .i64) (.pr (.i .i64) (.pr (.i .i64) (.sl (.i .i64)))))))))]
abbrev D24 : Type := pairD (.ty (.st (.pr (.i .i64) (.pr (.i .i64) (.pr (.i .i64) (.pr (.i .i64) (.pr (.i .i64) (.pr (.i .i64) (.sl (.i .i64)))))))))) (osOf ps24)
noncomputable def lv24 : Nat → Option (LI D24) := fun _ => none
noncomputable def g24 (a0_0 : Int) (a0_1 : Int) (a0_2 : Int) (a0_3 : Int) (a0_4 : Int) (a0_5 : Int) (a0_6 : List Int) : Option (Int × Int × Int × Int × Int × Int × List Int) :=
  Option.bind (g38 a0_6) fun v1 =>
  some ((a0_0, a0_1, a0_2, a0_3, a0_4, a0_5, v1))
noncomputable def i24 : FI := ⟨ps24, .ty (.st (.pr (.i .i64) (.pr (.i .i64) (.pr (.i .i64) (.pr (.i .i64) (.pr (.i .i64) (.pr (.i .i64) (.sl (.i .i64))))))))), fun (a0_0, a0_1, a0_2, a0_3, a0_4, a0_5, a0_6) => g24 a0_0 a0_1 a0_2 a0_3 a0_4 a0_5 a0_6⟩
theorem e24 : (fun a => i24.G a) = fnEval T Y env24 an i24.ps i24.rs true Try.f24.results.toList lv24 c24 := by kernel_rfl
theorem lo24 : loopsOf c24 = [] := by kernel_rfl
theorem ll24 : LoopsOk T Y env24 an lv24 (finO T true ps24 (.ty (.st (.pr (.i .i64) (.pr (.i .i64) (.pr (.i .i64) (.pr (.i .i64) (.pr (.i .i64) (.pr (.i .i64) (.sl (.i .i64)))))))))) Try.f24.results.toList) c24 := loopsOk_of (by rw [lo24]; exact trivial)
theorem k24 : FnOk Try.prog 24 i24 :=
  fn_ok (T := T) (Y := Y) (an := an) (env := env24) (fr := true) (lenv := lv24) mixed tok.1 tok.2 (envCons k38 (envNil)) (fn := Try.f24) (c := c24) (by kernel_rfl) (by kernel_rfl) (by kernel_rfl) ll24 (fun a => congrFun e24 a)
/-! ### broker/vote.adopt -/
noncomputable def c25 : Code := Try.f25.body.getD .skip
noncomputable def env25 : Env := mkEnv []
abbrev ps25 : List PSh := [.d (.st (.pr (.i .i64) (.pr (.i .i64) (.pr (.i .i64) (.pr (.i .i64) (.pr (.i .i64) (.pr (.i .i64) (.sl (.i .i64))))))))), .d (.i .i64)]
abbrev D25 : Type := pairD (.ty (.st (.pr (.i .i64) (.pr (.i .i64) (.pr (.i .i64) (.pr (.i .i64) (.pr (.i .i64) (.pr (.i .i64) (.sl (.i .i64)))))))))) (osOf ps25)
noncomputable def lv25 : Nat → Option (LI D25) := fun _ => none
noncomputable def g25 (a0_0 : Int) (a0_1 : Int) (a0_2 : Int) (a0_3 : Int) (a0_4 : Int) (a0_5 : Int) (a0_6 : List Int) (a1 : Int) : Option (Int × Int × Int × Int × Int × Int × List Int) :=
  some ((a0_0, a0_1, a1, 0, -1, -1, []))
noncomputable def i25 : FI := ⟨ps25, .ty (.st (.pr (.i .i64) (.pr (.i .i64) (.pr (.i .i64) (.pr (.i .i64) (.pr (.i .i64) (.pr (.i .i64) (.sl (.i .i64))))))))), fun ((a0_0, a0_1, a0_2, a0_3, a0_4, a0_5, a0_6), a1) => g25 a0_0 a0_1 a0_2 a0_3 a0_4 a0_5 a0_6 a1⟩
theorem e25 : (fun a => i25.G a) = fnEval T Y env25 an i25.ps i25.rs true Try.f25.results.toList lv25 c25 := by kernel_rfl
theorem lo25 : loopsOf c25 = [] := by kernel_rfl
theorem ll25 : LoopsOk T Y env25 an lv25 (finO T true ps25 (.ty (.st (.pr (.i .i64) (.pr (.i .i64) (.pr (.i .i64) (.pr (.i .i64) (.pr (.i .i64) (.pr (.i .i64) (.sl (.i .i64)))))))))) Try.f25.results.toList) c25 := loopsOk_of (by rw [lo25]; exact trivial)
theorem k25 : FnOk Try.prog 25 i25 :=
  fn_ok (T := T) (Y := Y) (an := an) (env := env25) (fr := true) (lenv := lv25) mixed tok.1 tok.2 (envNil) (fn := Try.f25) (c := c25) (by kernel_rfl) (by kernel_rfl) (by kernel_rfl) ll25 (fun a => congrFun e25 a)
/-! ### broker/vote.lead -/
noncomputable def c26 : Code := Try.f26.body.getD .skip
noncomputable def env26 : Env := mkEnv []
abbrev ps26 : List PSh := [.d (.st (.pr (.i .i64) (.pr (.i .i64) (.pr (.i .i64) (.pr (.i .i64) (.pr (.i .i64) (.pr (.i .i64) (.sl (.i .i64)))))))))]
abbrev D26 : Type := pairD (.ty (.st (.pr (.i .i64) (.pr (.i .i64) (.pr (.i .i64) (.pr (.i .i64) (.pr (.i .i64) (.pr (.i .i64) (.sl (.i .i64)))))))))) (osOf ps26)
noncomputable def lv26 : Nat → Option (LI D26) := fun _ => none
noncomputable def g26 (a0_0 : Int) (a0_1 : Int) (a0_2 : Int) (a0_3 : Int) (a0_4 : Int) (a0_5 : Int) (a0_6 : List Int) : Option (Int × Int × Int × Int × Int × Int × List Int) :=
  some ((a0_0, a0_1, a0_2, 2, a0_4, a0_0, []))
noncomputable def i26 : FI := ⟨ps26, .ty (.st (.pr (.i .i64) (.pr (.i .i64) (.pr (.i .i64) (.pr (.i .i64) (.pr (.i .i64) (.pr (.i .i64) (.sl (.i .i64))))))))), fun (a0_0, a0_1, a0_2, a0_3, a0_4, a0_5, a0_6) => g26 a0_0 a0_1 a0_2 a0_3 a0_4 a0_5 a0_6⟩
theorem e26 : (fun a => i26.G a) = fnEval T Y env26 an i26.ps i26.rs true Try.f26.results.toList lv26 c26 := by kernel_rfl
theorem lo26 : loopsOf c26 = [] := by kernel_rfl
theorem ll26 : LoopsOk T Y env26 an lv26 (finO T true ps26 (.ty (.st (.pr (.i .i64) (.pr (.i .i64) (.pr (.i .i64) (.pr (.i .i64) (.pr (.i .i64) (.pr (.i .i64) (.sl (.i .i64)))))))))) Try.f26.results.toList) c26 := loopsOk_of (by rw [lo26]; exact trivial)
theorem k26 : FnOk Try.prog 26 i26 :=
  fn_ok (T := T) (Y := Y) (an := an) (env := env26) (fr := true) (lenv := lv26) mixed tok.1 tok.2 (envNil) (fn := Try.f26) (c := c26) (by kernel_rfl) (by kernel_rfl) (by kernel_rfl) ll26 (fun a => congrFun e26 a)
/-! ### broker/vote.concerns -/
noncomputable def c27 : Code := Try.f27.body.getD .skip
noncomputable def env27 : Env := mkEnv []
abbrev ps27 : List PSh := [.d (.st (.pr (.i .i64) (.pr (.i .i64) (.pr (.i .i64) (.pr (.i .i64) (.pr (.i .i64) (.pr (.i .i64) (.sl (.i .i64))))))))), .d (.st (.pr (.i .i64) (.pr (.i .i64) (.pr (.i .i64) (.pr (.i .i64) (.pr (.i .i64) (.pr (.i .i64) (.pr (.i .i64) (.pr .b (.sl (.st (.pr (.i .i64) .s))))))))))))]
abbrev D27 : Type := pairD (.ty .b) (osOf ps27)
noncomputable def lv27 : Nat → Option (LI D27) := fun _ => none
noncomputable def g27 (a0_0 : Int) (a0_1 : Int) (a0_2 : Int) (a0_3 : Int) (a0_4 : Int) (a0_5 : Int) (a0_6 : List Int) (a1_0 : Int) (a1_1 : Int) (a1_2 : Int) (a1_3 : Int) (a1_4 : Int) (a1_5 : Int) (a1_6 : Int) (a1_7 : Bool) (a1_8 : List (Int × List UInt8)) : Option (Bool) :=
  cond (a1_2 == a0_0)
    (cond (a1_1 != a0_0)
      (cond (decide (a1_1 ≥ 0))
        (cond (decide (a1_1 < a0_1))
          (cond (decide (a1_3 ≥ 1))
            (some (decide (a1_3 ≤ 1099511627776)))
            (some (false)))
          (some (false)))
        (some (false)))
      (some (false)))
    (some (false))
noncomputable def i27 : FI := ⟨ps27, .ty .b, fun ((a0_0, a0_1, a0_2, a0_3, a0_4, a0_5, a0_6), (a1_0, a1_1, a1_2, a1_3, a1_4, a1_5, a1_6, a1_7, a1_8)) => g27 a0_0 a0_1 a0_2 a0_3 a0_4 a0_5 a0_6 a1_0 a1_1 a1_2 a1_3 a1_4 a1_5 a1_6 a1_7 a1_8⟩
theorem e27 : (fun a => i27.G a) = fnEval T Y env27 an i27.ps i27.rs true Try.f27.results.toList lv27 c27 := by kernel_rfl
theorem lo27 : loopsOf c27 = [] := by kernel_rfl
theorem ll27 : LoopsOk T Y env27 an lv27 (finO T true ps27 (.ty .b) Try.f27.results.toList) c27 := loopsOk_of (by rw [lo27]; exact trivial)
theorem k27 : FnOk Try.prog 27 i27 :=
  fn_ok (T := T) (Y := Y) (an := an) (env := env27) (fr := true) (lenv := lv27) mixed tok.1 tok.2 (envNil) (fn := Try.f27) (c := c27) (by kernel_rfl) (by kernel_rfl) (by kernel_rfl) ll27 (fun a => congrFun e27 a)
/-! ### broker/vote.Observe -/
noncomputable def c15 : Code := Try.f15.body.getD .skip
noncomputable def env15 : Env := mkEnv [(24, i24), (25, i25)]
abbrev ps15 : List PSh := [.d (.st (.pr (.i .i64) (.pr (.i .i64) (.pr (.i .i64) (.pr (.i .i64) (.pr (.i .i64) (.pr (.i .i64) (.sl (.i .i64))))))))), .d (.i .i64)]
abbrev D15 : Type := pairD (.ty (.st (.pr (.i .i64) (.pr (.i .i64) (.pr (.i .i64) (.pr (.i .i64) (.pr (.i .i64) (.pr (.i .i64) (.sl (.i .i64)))))))))) (osOf ps15)
noncomputable def lv15 : Nat → Option (LI D15) := fun _ => none
noncomputable def g15 (a0_0 : Int) (a0_1 : Int) (a0_2 : Int) (a0_3 : Int) (a0_4 : Int) (a0_5 : Int) (a0_6 : List Int) (a1 : Int) : Option (Int × Int × Int × Int × Int × Int × List Int) :=
  cond (decide (a1 ≤ a0_2))
    (Option.bind (g24 a0_0 a0_1 a0_2 a0_3 a0_4 a0_5 a0_6) fun v1 =>
    some (v1))
    (cond (decide (a1 > 1099511627776))
      (Option.bind (g24 a0_0 a0_1 a0_2 a0_3 a0_4 a0_5 a0_6) fun v2 =>
      some (v2))
      (Option.bind (g25 a0_0 a0_1 a0_2 a0_3 a0_4 a0_5 a0_6 a1) fun v3 =>
      some (v3)))
noncomputable def i15 : FI := ⟨ps15, .ty (.st (.pr (.i .i64) (.pr (.i .i64) (.pr (.i .i64) (.pr (.i .i64) (.pr (.i .i64) (.pr (.i .i64) (.sl (.i .i64))))))))), fun ((a0_0, a0_1, a0_2, a0_3, a0_4, a0_5, a0_6), a1) => g15 a0_0 a0_1 a0_2 a0_3 a0_4 a0_5 a0_6 a1⟩
theorem e15 : (fun a => i15.G a) = fnEval T Y env15 an i15.ps i15.rs true Try.f15.results.toList lv15 c15 := by kernel_rfl
theorem lo15 : loopsOf c15 = [] := by kernel_rfl
theorem ll15 : LoopsOk T Y env15 an lv15 (finO T true ps15 (.ty (.st (.pr (.i .i64) (.pr (.i .i64) (.pr (.i .i64) (.pr (.i .i64) (.pr (.i .i64) (.pr (.i .i64) (.sl (.i .i64)))))))))) Try.f15.results.toList) c15 := loopsOk_of (by rw [lo15]; exact trivial)
theorem k15 : FnOk Try.prog 15 i15 :=
  fn_ok (T := T) (Y := Y) (an := an) (env := env15) (fr := true) (lenv := lv15) mixed tok.1 tok.2 (envCons k24 (envCons k25 (envNil))) (fn := Try.f15) (c := c15) (by kernel_rfl) (by kernel_rfl) (by kernel_rfl) ll15 (fun a => congrFun e15 a)
/-! ### broker/vote.Campaign -/
noncomputable def c13 : Code := Try.f13.body.getD .skip
noncomputable def env13 : Env := mkEnv [(24, i24), (25, i25), (26, i26)]
abbrev ps13 : List PSh := [.d (.st (.pr (.i .i64) (.pr (.i .i64) (.pr (.i .i64) (.pr (.i .i64) (.pr (.i .i64) (.pr (.i .i64) (.sl (.i .i64))))))))), .d (.i .i64), .d (.i .i64)]
abbrev D13 : Type := pairD (.tup (.pr (.ty (.st (.pr (.i .i64) (.pr (.i .i64) (.pr (.i .i64) (.pr (.i .i64) (.pr (.i .i64) (.pr (.i .i64) (.sl (.i .i64)))))))))) (.ty (.sl (.st (.pr (.i .i64) (.pr (.i .i64) (.pr (.i .i64) (.pr (.i .i64) (.pr (.i .i64) (.pr (.i .i64) (.pr (.i .i64) (.pr .b (.sl (.st (.pr (.i .i64) .s)))))))))))))))) (osOf ps13)
def ns13_0 : NS := { slots := [(3, .pt 3 []), (6, .pt 6 []), (8, .pt 8 []), (9, .hw 53), (1, .ty (.i .i64)), (2, .ty (.i .i64)), (35, .ty (.i .i64)), (36, .ty (.i .i64))], roots := [(53, .ar 9 (.st (.pr (.i .i64) (.pr (.i .i64) (.pr (.i .i64) (.pr (.i .i64) (.pr (.i .i64) (.pr (.i .i64) (.pr (.i .i64) (.pr .b (.sl (.st (.pr (.i .i64) .s))))))))))))), (8, .ag (.pr (.ty (.i .i64)) (.pr (.ty (.i .i64)) (.pr (.ty (.i .i64)) (.pr (.ty (.i .i64)) (.pr (.ty (.i .i64)) (.pr (.ty (.i .i64)) (.hw 31)))))))), (6, .ty (.st (.pr (.i .i64) (.pr (.i .i64) (.pr (.i .i64) (.pr (.i .i64) (.pr (.i .i64) (.pr (.i .i64) (.sl (.i .i64)))))))))), (3, .ty (.st (.pr (.i .i64) (.pr (.i .i64) (.pr (.i .i64) (.pr (.i .i64) (.pr (.i .i64) (.pr (.i .i64) (.sl (.i .i64)))))))))), (31, .ar 1 (.i .i64))], ad := [{ t := 9, path := [], g := 53, d := 9, τ := (.st (.pr (.i .i64) (.pr (.i .i64) (.pr (.i .i64) (.pr (.i .i64) (.pr (.i .i64) (.pr (.i .i64) (.pr (.i .i64) (.pr .b (.sl (.st (.pr (.i .i64) .s))))))))))) : Ty) }] }
def ex13_0 : List (Nat × NS) := [(0, { slots := [(6, .pt 6 []), (8, .pt 8 []), (9, .hw 53)], roots := [(53, .ar 9 (.st (.pr (.i .i64) (.pr (.i .i64) (.pr (.i .i64) (.pr (.i .i64) (.pr (.i .i64) (.pr (.i .i64) (.pr (.i .i64) (.pr .b (.sl (.st (.pr (.i .i64) .s))))))))))))), (8, .ag (.pr (.ty (.i .i64)) (.pr (.ty (.i .i64)) (.pr (.ty (.i .i64)) (.pr (.ty (.i .i64)) (.pr (.ty (.i .i64)) (.pr (.ty (.i .i64)) (.hw 31)))))))), (6, .ty (.st (.pr (.i .i64) (.pr (.i .i64) (.pr (.i .i64) (.pr (.i .i64) (.pr (.i .i64) (.pr (.i .i64) (.sl (.i .i64)))))))))), (31, .ar 1 (.i .i64))] })]
noncomputable def st13_0 (ih : ((Int × Int × Int × Int) × ((List (Int × Int × Int × Int × Int × Int × Int × Bool × List (Int × List UInt8))) × (Int × Int × Int × Int × Int × Int × Unit) × (Int × Int × Int × Int × Int × Int × List Int) × (Int × Int × Int × Int × Int × Int × List Int) × List Int)) → Option (((Unit) × ((List (Int × Int × Int × Int × Int × Int × Int × Bool × List (Int × List UInt8))) × (Int × Int × Int × Int × Int × Int × Unit) × (Int × Int × Int × Int × Int × Int × List Int) × List Int)) ⊕ (((Int × Int × Int × Int × Int × Int × List Int) × List (Int × Int × Int × Int × Int × Int × Int × Bool × List (Int × List UInt8)))))) : ((Int × Int × Int × Int) × ((List (Int × Int × Int × Int × Int × Int × Int × Bool × List (Int × List UInt8))) × (Int × Int × Int × Int × Int × Int × Unit) × (Int × Int × Int × Int × Int × Int × List Int) × (Int × Int × Int × Int × Int × Int × List Int) × List Int)) → Option (((Unit) × ((List (Int × Int × Int × Int × Int × Int × Int × Bool × List (Int × List UInt8))) × (Int × Int × Int × Int × Int × Int × Unit) × (Int × Int × Int × Int × Int × Int × List Int) × List Int)) ⊕ (((Int × Int × Int × Int × Int × Int × List Int) × List (Int × Int × Int × Int × Int × Int × Int × Bool × List (Int × List UInt8))))) := fun ((t1, t2, t35, t36), (r53, (r8_0, r8_1, r8_2, r8_3, r8_4, r8_5, ()), (r6_0, r6_1, r6_2, r6_3, r6_4, r6_5, r6_6), (r3_0, r3_1, r3_2, r3_3, r3_4, r3_5, r3_6), r31)) =>
  cond (decide (t36 < t35))
    (cond (t36 != r3_0)
      (cond (decide (r53.length + 1 ≤ 2147483647))
        (ih ((t1, t2, t35, IntKind.i64.wrap (t36 + 1)), r53 ++ [(1, r3_0, t36, r8_2, t1, t2, 0, false, [])], (r8_0, r8_1, r8_2, r8_3, r8_4, r8_5, ()), (r6_0, r6_1, r6_2, r6_3, r6_4, r6_5, r6_6), (r3_0, r3_1, r3_2, r3_3, r3_4, r3_5, r3_6), r31))
        (none))
      (ih ((t1, t2, t35, IntKind.i64.wrap (t36 + 1)), r53, (r8_0, r8_1, r8_2, r8_3, r8_4, r8_5, ()), (r6_0, r6_1, r6_2, r6_3, r6_4, r6_5, r6_6), (r3_0, r3_1, r3_2, r3_3, r3_4, r3_5, r3_6), r31)))
    (some (Sum.inl ((), r53, (r8_0, r8_1, r8_2, r8_3, r8_4, r8_5, ()), (r6_0, r6_1, r6_2, r6_3, r6_4, r6_5, r6_6), r31)))
noncomputable def h13_0 : ((Int × Int × Int × Int) × ((List (Int × Int × Int × Int × Int × Int × Int × Bool × List (Int × List UInt8))) × (Int × Int × Int × Int × Int × Int × Unit) × (Int × Int × Int × Int × Int × Int × List Int) × (Int × Int × Int × Int × Int × Int × List Int) × List Int)) → Option (((Unit) × ((List (Int × Int × Int × Int × Int × Int × Int × Bool × List (Int × List UInt8))) × (Int × Int × Int × Int × Int × Int × Unit) × (Int × Int × Int × Int × Int × Int × List Int) × List Int)) ⊕ (((Int × Int × Int × Int × Int × Int × List Int) × List (Int × Int × Int × Int × Int × Int × Int × Bool × List (Int × List UInt8))))) := loopN st13_0 fuel
noncomputable def l13_0 : LI D13 := ⟨ns13_0, ex13_0, h13_0⟩
noncomputable def lv13 : Nat → Option (LI D13) := fun q => if q = 10 then some l13_0 else (fun _ => none) q
noncomputable def g13 (a0_0 : Int) (a0_1 : Int) (a0_2 : Int) (a0_3 : Int) (a0_4 : Int) (a0_5 : Int) (a0_6 : List Int) (a1 : Int) (a2 : Int) : Option ((Int × Int × Int × Int × Int × Int × List Int) × List (Int × Int × Int × Int × Int × Int × Int × Bool × List (Int × List UInt8))) :=
  cond (decide (a0_2 ≥ 1099511627776))
    (Option.bind (g24 a0_0 a0_1 a0_2 a0_3 a0_4 a0_5 a0_6) fun v1 =>
    some ((v1, [])))
    (Option.bind (g25 a0_0 a0_1 a0_2 a0_3 a0_4 a0_5 a0_6 (IntKind.i64.wrap (a0_2 + 1))) fun v2 =>
    cond (a0_1 == 1)
      (Option.bind (g26 v2.1 v2.2.1 v2.2.2.1 v2.2.2.2.1 a0_0 v2.2.2.2.2.2.1 v2.2.2.2.2.2.2) fun v3 =>
      some ((v3, [])))
      (Option.bind (h13_0 ((a1, a2, a0_1, 0), [], (v2.1, v2.2.1, v2.2.2.1, 1, a0_0, v2.2.2.2.2.2.1, ()), (0, 0, 0, 0, 0, 0, []), (a0_0, a0_1, a0_2, a0_3, a0_4, a0_5, a0_6), [a0_0])) fun v4 =>
      match v4 with
      | .inl x5 =>
        some (((x5.2.2.1.1, x5.2.2.1.2.1, x5.2.2.1.2.2.1, x5.2.2.1.2.2.2.1, x5.2.2.1.2.2.2.2.1, x5.2.2.1.2.2.2.2.2.1, x5.2.2.2.2), x5.2.1))
      | .inr x5 =>
        some (x5)))
noncomputable def i13 : FI := ⟨ps13, .tup (.pr (.ty (.st (.pr (.i .i64) (.pr (.i .i64) (.pr (.i .i64) (.pr (.i .i64) (.pr (.i .i64) (.pr (.i .i64) (.sl (.i .i64)))))))))) (.ty (.sl (.st (.pr (.i .i64) (.pr (.i .i64) (.pr (.i .i64) (.pr (.i .i64) (.pr (.i .i64) (.pr (.i .i64) (.pr (.i .i64) (.pr .b (.sl (.st (.pr (.i .i64) .s))))))))))))))), fun ((a0_0, a0_1, a0_2, a0_3, a0_4, a0_5, a0_6), a1, a2) => g13 a0_0 a0_1 a0_2 a0_3 a0_4 a0_5 a0_6 a1 a2⟩
theorem s13_0 : st13_0 = stepEval T Y env13 an lv13 (finO T true ps13 (.tup (.pr (.ty (.st (.pr (.i .i64) (.pr (.i .i64) (.pr (.i .i64) (.pr (.i .i64) (.pr (.i .i64) (.pr (.i .i64) (.sl (.i .i64)))))))))) (.ty (.sl (.st (.pr (.i .i64) (.pr (.i .i64) (.pr (.i .i64) (.pr (.i .i64) (.pr (.i .i64) (.pr (.i .i64) (.pr (.i .i64) (.pr .b (.sl (.st (.pr (.i .i64) .s)))))))))))))))) Try.f13.results.toList) (loopAt c13 0) ns13_0 ex13_0 := by kernel_rfl
theorem e13 : (fun a => i13.G a) = fnEval T Y env13 an i13.ps i13.rs true Try.f13.results.toList lv13 c13 := by kernel_rfl
theorem lo13 : loopsOf c13 = [loopAt c13 0] := by kernel_rfl
theorem ll13 : LoopsOk T Y env13 an lv13 (finO T true ps13 (.tup (.pr (.ty (.st (.pr (.i .i64) (.pr (.i .i64) (.pr (.i .i64) (.pr (.i .i64) (.pr (.i .i64) (.pr (.i .i64) (.sl (.i .i64)))))))))) (.ty (.sl (.st (.pr (.i .i64) (.pr (.i .i64) (.pr (.i .i64) (.pr (.i .i64) (.pr (.i .i64) (.pr (.i .i64) (.pr (.i .i64) (.pr .b (.sl (.st (.pr (.i .i64) .s)))))))))))))))) Try.f13.results.toList) c13 := loopsOk_of (by rw [lo13]; exact ⟨loop1 (li := l13_0) (by kernel_rfl) (by kernel_rfl) s13_0, trivial⟩)
theorem k13 : FnOk Try.prog 13 i13 :=
  fn_ok (T := T) (Y := Y) (an := an) (env := env13) (fr := true) (lenv := lv13) mixed tok.1 tok.2 (envCons k24 (envCons k25 (envCons k26 (envNil)))) (fn := Try.f13) (c := c13) (by kernel_rfl) (by kernel_rfl) (by kernel_rfl) ll13 (fun a => congrFun e13 a)
/-! ### broker/vote.Answer -/
noncomputable def c14 : Code := Try.f14.body.getD .skip
noncomputable def env14 : Env := mkEnv [(27, i27), (24, i24), (15, i15)]
abbrev ps14 : List PSh := [.d (.st (.pr (.i .i64) (.pr (.i .i64) (.pr (.i .i64) (.pr (.i .i64) (.pr (.i .i64) (.pr (.i .i64) (.sl (.i .i64))))))))), .d (.st (.pr (.i .i64) (.pr (.i .i64) (.pr (.i .i64) (.pr (.i .i64) (.pr (.i .i64) (.pr (.i .i64) (.pr (.i .i64) (.pr .b (.sl (.st (.pr (.i .i64) .s)))))))))))), .d (.i .i64), .d (.i .i64)]
abbrev D14 : Type := pairD (.tup (.pr (.ty (.st (.pr (.i .i64) (.pr (.i .i64) (.pr (.i .i64) (.pr (.i .i64) (.pr (.i .i64) (.pr (.i .i64) (.sl (.i .i64)))))))))) (.ty (.st (.pr (.i .i64) (.pr (.i .i64) (.pr (.i .i64) (.pr (.i .i64) (.pr (.i .i64) (.pr (.i .i64) (.pr (.i .i64) (.pr .b (.sl (.st (.pr (.i .i64) .s))))))))))))))) (osOf ps14)
noncomputable def lv14 : Nat → Option (LI D14) := fun _ => none
noncomputable def g14 (a0_0 : Int) (a0_1 : Int) (a0_2 : Int) (a0_3 : Int) (a0_4 : Int) (a0_5 : Int) (a0_6 : List Int) (a1_0 : Int) (a1_1 : Int) (a1_2 : Int) (a1_3 : Int) (a1_4 : Int) (a1_5 : Int) (a1_6 : Int) (a1_7 : Bool) (a1_8 : List (Int × List UInt8)) (a2 : Int) (a3 : Int) : Option ((Int × Int × Int × Int × Int × Int × List Int) × Int × Int × Int × Int × Int × Int × Int × Bool × List (Int × List UInt8)) :=
  cond (a1_0 != 1)
    (Option.bind (g24 a0_0 a0_1 a0_2 a0_3 a0_4 a0_5 a0_6) fun v1 =>
    some ((v1, 0, 0, 0, 0, 0, 0, 0, false, [])))
    (Option.bind (g27 a0_0 a0_1 a0_2 a0_3 a0_4 a0_5 a0_6 a1_0 a1_1 a1_2 a1_3 a1_4 a1_5 a1_6 a1_7 a1_8) fun v2 =>
    cond (!v2)
      (Option.bind (g24 a0_0 a0_1 a0_2 a0_3 a0_4 a0_5 a0_6) fun v3 =>
      some ((v3, 0, 0, 0, 0, 0, 0, 0, false, [])))
      (Option.bind (g15 a0_0 a0_1 a0_2 a0_3 a0_4 a0_5 a0_6 a1_3) fun v4 =>
      cond (decide (a1_5 > a3))
        (cond (a1_3 == v4.2.2.1)
          (cond (v4.2.2.2.2.1 == -1)
            (some (((v4.1, v4.2.1, v4.2.2.1, v4.2.2.2.1, a1_1, v4.2.2.2.2.2), 2, a0_0, a1_1, v4.2.2.1, 0, 0, 0, true, [])))
            (cond (v4.2.2.2.2.1 == a1_1)
              (some (((v4.1, v4.2.1, v4.2.2.1, v4.2.2.2.1, a1_1, v4.2.2.2.2.2), 2, a0_0, a1_1, v4.2.2.1, 0, 0, 0, true, [])))
              (some ((v4, 2, a0_0, a1_1, v4.2.2.1, 0, 0, 0, false, [])))))
          (some ((v4, 2, a0_0, a1_1, v4.2.2.1, 0, 0, 0, false, []))))
        (cond (a1_5 == a3)
          (cond (a1_3 == v4.2.2.1)
            (cond (v4.2.2.2.2.1 == -1)
              (cond (decide (a1_4 ≥ a2))
                (some (((v4.1, v4.2.1, v4.2.2.1, v4.2.2.2.1, a1_1, v4.2.2.2.2.2), 2, a0_0, a1_1, v4.2.2.1, 0, 0, 0, decide (a1_4 ≥ a2), [])))
                (some ((v4, 2, a0_0, a1_1, v4.2.2.1, 0, 0, 0, decide (a1_4 ≥ a2), []))))
              (cond (v4.2.2.2.2.1 == a1_1)
                (cond (decide (a1_4 ≥ a2))
                  (some (((v4.1, v4.2.1, v4.2.2.1, v4.2.2.2.1, a1_1, v4.2.2.2.2.2), 2, a0_0, a1_1, v4.2.2.1, 0, 0, 0, decide (a1_4 ≥ a2), [])))
                  (some ((v4, 2, a0_0, a1_1, v4.2.2.1, 0, 0, 0, decide (a1_4 ≥ a2), []))))
                (some ((v4, 2, a0_0, a1_1, v4.2.2.1, 0, 0, 0, false, [])))))
            (some ((v4, 2, a0_0, a1_1, v4.2.2.1, 0, 0, 0, false, []))))
          (cond (a1_3 == v4.2.2.1)
            (cond (v4.2.2.2.2.1 == -1)
              (some ((v4, 2, a0_0, a1_1, v4.2.2.1, 0, 0, 0, false, [])))
              (cond (v4.2.2.2.2.1 == a1_1)
                (some ((v4, 2, a0_0, a1_1, v4.2.2.1, 0, 0, 0, false, [])))
                (some ((v4, 2, a0_0, a1_1, v4.2.2.1, 0, 0, 0, false, [])))))
            (some ((v4, 2, a0_0, a1_1, v4.2.2.1, 0, 0, 0, false, [])))))))
noncomputable def i14 : FI := ⟨ps14, .tup (.pr (.ty (.st (.pr (.i .i64) (.pr (.i .i64) (.pr (.i .i64) (.pr (.i .i64) (.pr (.i .i64) (.pr (.i .i64) (.sl (.i .i64)))))))))) (.ty (.st (.pr (.i .i64) (.pr (.i .i64) (.pr (.i .i64) (.pr (.i .i64) (.pr (.i .i64) (.pr (.i .i64) (.pr (.i .i64) (.pr .b (.sl (.st (.pr (.i .i64) .s)))))))))))))), fun ((a0_0, a0_1, a0_2, a0_3, a0_4, a0_5, a0_6), (a1_0, a1_1, a1_2, a1_3, a1_4, a1_5, a1_6, a1_7, a1_8), a2, a3) => g14 a0_0 a0_1 a0_2 a0_3 a0_4 a0_5 a0_6 a1_0 a1_1 a1_2 a1_3 a1_4 a1_5 a1_6 a1_7 a1_8 a2 a3⟩
theorem e14 : (fun a => i14.G a) = fnEval T Y env14 an i14.ps i14.rs true Try.f14.results.toList lv14 c14 := by kernel_rfl
theorem lo14 : loopsOf c14 = [] := by kernel_rfl
theorem ll14 : LoopsOk T Y env14 an lv14 (finO T true ps14 (.tup (.pr (.ty (.st (.pr (.i .i64) (.pr (.i .i64) (.pr (.i .i64) (.pr (.i .i64) (.pr (.i .i64) (.pr (.i .i64) (.sl (.i .i64)))))))))) (.ty (.st (.pr (.i .i64) (.pr (.i .i64) (.pr (.i .i64) (.pr (.i .i64) (.pr (.i .i64) (.pr (.i .i64) (.pr (.i .i64) (.pr .b (.sl (.st (.pr (.i .i64) .s))))))))))))))) Try.f14.results.toList) c14 := loopsOk_of (by rw [lo14]; exact trivial)
theorem k14 : FnOk Try.prog 14 i14 :=
  fn_ok (T := T) (Y := Y) (an := an) (env := env14) (fr := true) (lenv := lv14) mixed tok.1 tok.2 (envCons k27 (envCons k24 (envCons k15 (envNil)))) (fn := Try.f14) (c := c14) (by kernel_rfl) (by kernel_rfl) (by kernel_rfl) ll14 (fun a => congrFun e14 a)
/-! ### broker/vote.Count -/
noncomputable def c16 : Code := Try.f16.body.getD .skip
noncomputable def env16 : Env := mkEnv [(27, i27), (24, i24), (15, i15), (28, i28), (26, i26)]
abbrev ps16 : List PSh := [.d (.st (.pr (.i .i64) (.pr (.i .i64) (.pr (.i .i64) (.pr (.i .i64) (.pr (.i .i64) (.pr (.i .i64) (.sl (.i .i64))))))))), .d (.st (.pr (.i .i64) (.pr (.i .i64) (.pr (.i .i64) (.pr (.i .i64) (.pr (.i .i64) (.pr (.i .i64) (.pr (.i .i64) (.pr .b (.sl (.st (.pr (.i .i64) .s))))))))))))]
abbrev D16 : Type := pairD (.ty (.st (.pr (.i .i64) (.pr (.i .i64) (.pr (.i .i64) (.pr (.i .i64) (.pr (.i .i64) (.pr (.i .i64) (.sl (.i .i64)))))))))) (osOf ps16)
def ns16_1 : NS := { slots := [(4, .pt 4 []), (5, .pt 5 []), (56, .ar 1 .b), (57, .ty (.i .i64))], roots := [(66, .ar 1 (.i .i64)), (5, .ag (.pr (.ty (.i .i64)) (.pr (.ty (.i .i64)) (.pr (.ty (.i .i64)) (.pr (.ty (.i .i64)) (.pr (.ty (.i .i64)) (.pr (.ty (.i .i64)) (.hw 66)))))))), (4, .ty (.st (.pr (.i .i64) (.pr (.i .i64) (.pr (.i .i64) (.pr (.i .i64) (.pr (.i .i64) (.pr (.i .i64) (.sl (.i .i64))))))))))], ad := [{ t := 5, path := [(6, 6)], g := 66, d := 1, τ := (.i .i64 : Ty) }] }
def ex16_1 : List (Nat × NS) := [(2, { slots := [(4, .pt 4 []), (5, .pt 5 [])], roots := [(5, .ag (.pr (.ty (.i .i64)) (.pr (.ty (.i .i64)) (.pr (.ty (.i .i64)) (.pr (.ty (.i .i64)) (.pr (.ty (.i .i64)) (.pr (.ty (.i .i64)) (.hw 66)))))))), (4, .ty (.st (.pr (.i .i64) (.pr (.i .i64) (.pr (.i .i64) (.pr (.i .i64) (.pr (.i .i64) (.pr (.i .i64) (.sl (.i .i64)))))))))), (66, .ar 1 (.i .i64))] })]
noncomputable def st16_1 (ih : ((List Bool × Int) × (List Int × (Int × Int × Int × Int × Int × Int × Unit) × Int × Int × Int × Int × Int × Int × List Int)) → Option (((Unit) × ((Int × Int × Int × Int × Int × Int × Unit) × (Int × Int × Int × Int × Int × Int × List Int) × List Int)) ⊕ ((Int × Int × Int × Int × Int × Int × List Int)))) : ((List Bool × Int) × (List Int × (Int × Int × Int × Int × Int × Int × Unit) × Int × Int × Int × Int × Int × Int × List Int)) → Option (((Unit) × ((Int × Int × Int × Int × Int × Int × Unit) × (Int × Int × Int × Int × Int × Int × List Int) × List Int)) ⊕ ((Int × Int × Int × Int × Int × Int × List Int))) := fun ((t56, t57), (r66, (r5_0, r5_1, r5_2, r5_3, r5_4, r5_5, ()), (r4_0, r4_1, r4_2, r4_3, r4_4, r4_5, r4_6))) =>
  cond (decide (t57 < 7))
    (cond (decide (0 ≤ t57) && decide (t57 < (↑7 : Int)) && decide (t57 < (↑t56.length : Int)))
      (cond (t56.getD t57.toNat false)
        (cond (decide (r66.length + 1 ≤ 2147483647))
          (ih ((t56, IntKind.i64.wrap (t57 + 1)), r66 ++ [t57], (r5_0, r5_1, r5_2, r5_3, r5_4, r5_5, ()), r4_0, r4_1, r4_2, r4_3, r4_4, r4_5, r4_6))
          (none))
        (ih ((t56, IntKind.i64.wrap (t57 + 1)), r66, (r5_0, r5_1, r5_2, r5_3, r5_4, r5_5, ()), r4_0, r4_1, r4_2, r4_3, r4_4, r4_5, r4_6)))
      (none))
    (some (Sum.inl ((), (r5_0, r5_1, r5_2, r5_3, r5_4, r5_5, ()), (r4_0, r4_1, r4_2, r4_3, r4_4, r4_5, r4_6), r66)))
noncomputable def h16_1 : ((List Bool × Int) × (List Int × (Int × Int × Int × Int × Int × Int × Unit) × Int × Int × Int × Int × Int × Int × List Int)) → Option (((Unit) × ((Int × Int × Int × Int × Int × Int × Unit) × (Int × Int × Int × Int × Int × Int × List Int) × List Int)) ⊕ ((Int × Int × Int × Int × Int × Int × List Int))) := loopN st16_1 fuel
noncomputable def l16_1 : LI D16 := ⟨ns16_1, ex16_1, h16_1⟩
def ns16_0 : NS := { slots := [(4, .pt 4 []), (5, .pt 5 []), (6, .pt 6 []), (46, .ty (.sl (.i .i64))), (47, .ty (.i .i64)), (48, .ty (.i .i64))], roots := [(6, .ar 1 .b), (5, .ty (.st (.pr (.i .i64) (.pr (.i .i64) (.pr (.i .i64) (.pr (.i .i64) (.pr (.i .i64) (.pr (.i .i64) (.sl (.i .i64)))))))))), (4, .ty (.st (.pr (.i .i64) (.pr (.i .i64) (.pr (.i .i64) (.pr (.i .i64) (.pr (.i .i64) (.pr (.i .i64) (.sl (.i .i64))))))))))] }
def ex16_0 : List (Nat × NS) := [(0, { slots := [(4, .pt 4 []), (5, .pt 5 []), (6, .pt 6 [])], roots := [(6, .ar 1 .b), (5, .ty (.st (.pr (.i .i64) (.pr (.i .i64) (.pr (.i .i64) (.pr (.i .i64) (.pr (.i .i64) (.pr (.i .i64) (.sl (.i .i64)))))))))), (4, .ty (.st (.pr (.i .i64) (.pr (.i .i64) (.pr (.i .i64) (.pr (.i .i64) (.pr (.i .i64) (.pr (.i .i64) (.sl (.i .i64))))))))))] })]
noncomputable def st16_0 (ih : ((List Int × Int × Int) × (List Bool × (Int × Int × Int × Int × Int × Int × List Int) × Int × Int × Int × Int × Int × Int × List Int)) → Option (((Unit) × (List Bool × (Int × Int × Int × Int × Int × Int × List Int) × Int × Int × Int × Int × Int × Int × List Int)) ⊕ ((Int × Int × Int × Int × Int × Int × List Int)))) : ((List Int × Int × Int) × (List Bool × (Int × Int × Int × Int × Int × Int × List Int) × Int × Int × Int × Int × Int × Int × List Int)) → Option (((Unit) × (List Bool × (Int × Int × Int × Int × Int × Int × List Int) × Int × Int × Int × Int × Int × Int × List Int)) ⊕ ((Int × Int × Int × Int × Int × Int × List Int))) := fun ((t46, t47, t48), (r6, (r5_0, r5_1, r5_2, r5_3, r5_4, r5_5, r5_6), (r4_0, r4_1, r4_2, r4_3, r4_4, r4_5, r4_6))) =>
  cond (decide (t48 < t47))
    (cond (decide (0 ≤ t48) && decide (t48 < (↑t46.length : Int)))
      (cond (decide (0 ≤ t46.getD t48.toNat 0) && decide (t46.getD t48.toNat 0 < (↑7 : Int)))
        (cond (decide ((t46.getD t48.toNat 0).toNat < r6.length))
          (ih ((t46, t47, IntKind.i64.wrap (t48 + 1)), r6.set (t46.getD t48.toNat 0).toNat true, (r5_0, r5_1, r5_2, r5_3, r5_4, r5_5, r5_6), r4_0, r4_1, r4_2, r4_3, r4_4, r4_5, r4_6))
          (none))
        (none))
      (none))
    (some (Sum.inl ((), r6, (r5_0, r5_1, r5_2, r5_3, r5_4, r5_5, r5_6), r4_0, r4_1, r4_2, r4_3, r4_4, r4_5, r4_6)))
noncomputable def h16_0 : ((List Int × Int × Int) × (List Bool × (Int × Int × Int × Int × Int × Int × List Int) × Int × Int × Int × Int × Int × Int × List Int)) → Option (((Unit) × (List Bool × (Int × Int × Int × Int × Int × Int × List Int) × Int × Int × Int × Int × Int × Int × List Int)) ⊕ ((Int × Int × Int × Int × Int × Int × List Int))) := loopN st16_0 fuel
noncomputable def l16_0 : LI D16 := ⟨ns16_0, ex16_0, h16_0⟩
noncomputable def lv16 : Nat → Option (LI D16) := fun q => if q = 9 then some l16_0 else (fun q => if q = 15 then some l16_1 else (fun _ => none) q) q
noncomputable def g16 (a0_0 : Int) (a0_1 : Int) (a0_2 : Int) (a0_3 : Int) (a0_4 : Int) (a0_5 : Int) (a0_6 : List Int) (a1_0 : Int) (a1_1 : Int) (a1_2 : Int) (a1_3 : Int) (a1_4 : Int) (a1_5 : Int) (a1_6 : Int) (a1_7 : Bool) (a1_8 : List (Int × List UInt8)) : Option (Int × Int × Int × Int × Int × Int × List Int) :=
  cond (a1_0 != 2)
    (Option.bind (g24 a0_0 a0_1 a0_2 a0_3 a0_4 a0_5 a0_6) fun v1 =>
    some (v1))
    (Option.bind (g27 a0_0 a0_1 a0_2 a0_3 a0_4 a0_5 a0_6 a1_0 a1_1 a1_2 a1_3 a1_4 a1_5 a1_6 a1_7 a1_8) fun v2 =>
    cond (!v2)
      (Option.bind (g24 a0_0 a0_1 a0_2 a0_3 a0_4 a0_5 a0_6) fun v3 =>
      some (v3))
      (Option.bind (g15 a0_0 a0_1 a0_2 a0_3 a0_4 a0_5 a0_6 a1_3) fun v4 =>
      cond (a1_3 != v4.2.2.1)
        (some (v4))
        (cond (v4.2.2.2.1 != 1)
          (some (v4))
          (cond (!a1_7)
            (some (v4))
            (cond (decide (0 ≤ a1_1) && decide (a1_1 < (↑7 : Int)))
              (cond (decide (a1_1.toNat < 7))
                (Option.bind (h16_0 ((v4.2.2.2.2.2.2, (↑(List.length v4.2.2.2.2.2.2) : Int), 0), [false, false, false, false, false, false, false].set a1_1.toNat true, v4, 0, 0, 0, 0, 0, 0, [])) fun v5 =>
                match v5 with
                | .inl x6 =>
                  cond (true == true && true && 1 * List.length x6.2.1 == 7 && true)
                    (Option.bind (h16_1 ((x6.2.1, 0), [], (x6.2.2.1.1, x6.2.2.1.2.1, x6.2.2.1.2.2.1, x6.2.2.1.2.2.2.1, x6.2.2.1.2.2.2.2.1, x6.2.2.1.2.2.2.2.2.1, ()), x6.2.2.2)) fun v7 =>
                    match v7 with
                    | .inl x8 =>
                      Option.bind (g28 (↑(List.length x8.2.2.2) : Int) x8.2.1.2.1) fun v9 =>
                      cond (v9)
                        (Option.bind (g26 x8.2.1.1 x8.2.1.2.1 x8.2.1.2.2.1 x8.2.1.2.2.2.1 x8.2.1.2.2.2.2.1 x8.2.1.2.2.2.2.2.1 x8.2.2.2) fun v10 =>
                        some (v10))
                        (some ((x8.2.1.1, x8.2.1.2.1, x8.2.1.2.2.1, x8.2.1.2.2.2.1, x8.2.1.2.2.2.2.1, x8.2.1.2.2.2.2.2.1, x8.2.2.2)))
                    | .inr x8 =>
                      some (x8))
                    (none)
                | .inr x6 =>
                  some (x6))
                (none))
              (none))))))
noncomputable def i16 : FI := ⟨ps16, .ty (.st (.pr (.i .i64) (.pr (.i .i64) (.pr (.i .i64) (.pr (.i .i64) (.pr (.i .i64) (.pr (.i .i64) (.sl (.i .i64))))))))), fun ((a0_0, a0_1, a0_2, a0_3, a0_4, a0_5, a0_6), (a1_0, a1_1, a1_2, a1_3, a1_4, a1_5, a1_6, a1_7, a1_8)) => g16 a0_0 a0_1 a0_2 a0_3 a0_4 a0_5 a0_6 a1_0 a1_1 a1_2 a1_3 a1_4 a1_5 a1_6 a1_7 a1_8⟩
theorem s16_1 : st16_1 = stepEval T Y env16 an lv16 (finO T true ps16 (.ty (.st (.pr (.i .i64) (.pr (.i .i64) (.pr (.i .i64) (.pr (.i .i64) (.pr (.i .i64) (.pr (.i .i64) (.sl (.i .i64)))))))))) Try.f16.results.toList) (loopAt c16 1) ns16_1 ex16_1 := by kernel_rfl
theorem s16_0 : st16_0 = stepEval T Y env16 an lv16 (finO T true ps16 (.ty (.st (.pr (.i .i64) (.pr (.i .i64) (.pr (.i .i64) (.pr (.i .i64) (.pr (.i .i64) (.pr (.i .i64) (.sl (.i .i64)))))))))) Try.f16.results.toList) (loopAt c16 0) ns16_0 ex16_0 := by kernel_rfl
theorem e16 : (fun a => i16.G a) = fnEval T Y env16 an i16.ps i16.rs true Try.f16.results.toList lv16 c16 := by kernel_rfl
theorem lo16 : loopsOf c16 = [loopAt c16 0, loopAt c16 1] := by kernel_rfl
theorem ll16 : LoopsOk T Y env16 an lv16 (finO T true ps16 (.ty (.st (.pr (.i .i64) (.pr (.i .i64) (.pr (.i .i64) (.pr (.i .i64) (.pr (.i .i64) (.pr (.i .i64) (.sl (.i .i64)))))))))) Try.f16.results.toList) c16 := loopsOk_of (by rw [lo16]; exact ⟨loop1 (li := l16_0) (by kernel_rfl) (by kernel_rfl) s16_0, ⟨loop1 (li := l16_1) (by kernel_rfl) (by kernel_rfl) s16_1, trivial⟩⟩)
theorem k16 : FnOk Try.prog 16 i16 :=
  fn_ok (T := T) (Y := Y) (an := an) (env := env16) (fr := true) (lenv := lv16) mixed tok.1 tok.2 (envCons k27 (envCons k24 (envCons k15 (envCons k28 (envCons k26 (envNil)))))) (fn := Try.f16) (c := c16) (by kernel_rfl) (by kernel_rfl) (by kernel_rfl) ll16 (fun a => congrFun e16 a)
end Go.Proofs.Ytehjeifbgegabaa.EVT
