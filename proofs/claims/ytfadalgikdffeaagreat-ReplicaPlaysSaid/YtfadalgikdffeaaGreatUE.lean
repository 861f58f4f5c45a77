/- What functions compute, as printed (U, part E). -/
import Derived.Test.YtfadalgikdffeaaGreatUB
set_option linter.unusedVariables false
set_option maxRecDepth 100000
set_option maxHeartbeats 0
namespace Go.Proofs.YtfadalgikdffeaaGreat.EVT
open Go Go.EV
/-! ### broker/replica.clone -/
noncomputable def c31 : Code := Tryz.f31.body.getD .skip
noncomputable def env31 : Env := mkEnv [(64, i64), (56, i56)]
abbrev ps31 : List PSh := [.d QS1]
abbrev D31 : Type := pairD (.ag (.pr (.ty QS6) (.pr (.ty (.i .i64)) (.pr (.ow 2 (.st (.pr (.i .i64) .s))) (.ow 1 (.i .i64)))))) (osOf ps31)
noncomputable def lv31 : Nat → Option (LI D31) := fun _ => none
noncomputable def g31 (a0_0_0 : Int) (a0_0_1 : Int) (a0_0_2 : Int) (a0_0_3 : Int) (a0_0_4 : Int) (a0_0_5 : Int) (a0_0_6 : List Int) (a0_1 : Int) (a0_2 : List (Int × List UInt8)) (a0_3 : List Int) : Option ((Int × Int × Int × Int × Int × Int × List Int) × Int × (List (Int × List UInt8)) × List Int) :=
  Option.bind (g64 a0_0_6) fun v1 =>
  Option.bind (g56 a0_2) fun v2 =>
  Option.bind (g64 a0_3) fun v3 =>
  some (((a0_0_0, a0_0_1, a0_0_2, a0_0_3, a0_0_4, a0_0_5, v1), a0_1, v2, v3))
noncomputable def i31 : FI := ⟨ps31, .ag (.pr (.ty QS6) (.pr (.ty (.i .i64)) (.pr (.ow 2 (.st (.pr (.i .i64) .s))) (.ow 1 (.i .i64))))), fun ((a0_0_0, a0_0_1, a0_0_2, a0_0_3, a0_0_4, a0_0_5, a0_0_6), a0_1, a0_2, a0_3) => g31 a0_0_0 a0_0_1 a0_0_2 a0_0_3 a0_0_4 a0_0_5 a0_0_6 a0_1 a0_2 a0_3⟩
theorem e31 : (fun a => i31.G a) = fnEval T Y env31 (zapA an [(4, 1, [0])]) i31.ps i31.rs false Tryz.f31.results.toList lv31 c31 := by kernel_rfl
theorem lo31 : loopsOf c31 = [] := by kernel_rfl
theorem ll31 : LoopsOk T Y env31 (zapA an [(4, 1, [0])]) lv31 (finO T false ps31 (.ag (.pr (.ty QS6) (.pr (.ty (.i .i64)) (.pr (.ow 2 (.st (.pr (.i .i64) .s))) (.ow 1 (.i .i64)))))) Tryz.f31.results.toList) c31 := loopsOk_of (by rw [lo31]; exact trivial)
theorem k31 : FnOk Tryz.prog 31 i31 :=
  fn_ok (T := T) (Y := Y) (an := zapA an [(4, 1, [0])]) (env := env31) (fr := false) (lenv := lv31) mixed tok.1 tok.2 (envCons k64 (envCons k56 (envNil))) (fn := Tryz.f31) (c := c31) (by kernel_rfl) (by kernel_rfl) (by kernel_rfl) ll31 (fun a => congrFun e31 a)
/-! ### broker/vote.clone -/
noncomputable def c65 : Code := Tryz.f65.body.getD .skip
noncomputable def env65 : Env := mkEnv [(64, i64)]
abbrev ps65 : List PSh := [.d QS6]
abbrev D65 : Type := pairD (.ag (.pr (.ty (.i .i64)) (.pr (.ty (.i .i64)) (.pr (.ty (.i .i64)) (.pr (.ty (.i .i64)) (.pr (.ty (.i .i64)) (.pr (.ty (.i .i64)) (.ow 1 (.i .i64))))))))) (osOf ps65)
noncomputable def lv65 : Nat → Option (LI D65) := fun _ => none
noncomputable def g65 (a0_0 : Int) (a0_1 : Int) (a0_2 : Int) (a0_3 : Int) (a0_4 : Int) (a0_5 : Int) (a0_6 : List Int) : Option QT3 :=
  Option.bind (g64 a0_6) fun v1 =>
  some ((a0_0, a0_1, a0_2, a0_3, a0_4, a0_5, v1))
noncomputable def i65 : FI := ⟨ps65, .ag (.pr (.ty (.i .i64)) (.pr (.ty (.i .i64)) (.pr (.ty (.i .i64)) (.pr (.ty (.i .i64)) (.pr (.ty (.i .i64)) (.pr (.ty (.i .i64)) (.ow 1 (.i .i64)))))))), fun (a0_0, a0_1, a0_2, a0_3, a0_4, a0_5, a0_6) => g65 a0_0 a0_1 a0_2 a0_3 a0_4 a0_5 a0_6⟩
theorem e65 : (fun a => i65.G a) = fnEval T Y env65 an i65.ps i65.rs false Tryz.f65.results.toList lv65 c65 := by kernel_rfl
theorem lo65 : loopsOf c65 = [] := by kernel_rfl
theorem ll65 : LoopsOk T Y env65 an lv65 (finO T false ps65 (.ag (.pr (.ty (.i .i64)) (.pr (.ty (.i .i64)) (.pr (.ty (.i .i64)) (.pr (.ty (.i .i64)) (.pr (.ty (.i .i64)) (.pr (.ty (.i .i64)) (.ow 1 (.i .i64))))))))) Tryz.f65.results.toList) c65 := loopsOk_of (by rw [lo65]; exact trivial)
theorem k65 : FnOk Tryz.prog 65 i65 :=
  fn_ok (T := T) (Y := Y) (an := an) (env := env65) (fr := false) (lenv := lv65) mixed tok.1 tok.2 (envCons k64 (envNil)) (fn := Tryz.f65) (c := c65) (by kernel_rfl) (by kernel_rfl) (by kernel_rfl) ll65 (fun a => congrFun e65 a)
/-! ### broker/vote.adopt -/
noncomputable def c66 : Code := Tryz.f66.body.getD .skip
noncomputable def env66 : Env := mkEnv []
abbrev ps66 : List PSh := [.d QS6, .d (.i .i64)]
abbrev D66 : Type := pairD (.ty QS6) (osOf ps66)
noncomputable def lv66 : Nat → Option (LI D66) := fun _ => none
noncomputable def g66 (a0_0 : Int) (a0_1 : Int) (a0_2 : Int) (a0_3 : Int) (a0_4 : Int) (a0_5 : Int) (a0_6 : List Int) (a1 : Int) : Option QT3 :=
  some ((a0_0, a0_1, a1, 0, -1, -1, []))
noncomputable def i66 : FI := ⟨ps66, .ty QS6, fun ((a0_0, a0_1, a0_2, a0_3, a0_4, a0_5, a0_6), a1) => g66 a0_0 a0_1 a0_2 a0_3 a0_4 a0_5 a0_6 a1⟩
theorem e66 : (fun a => i66.G a) = fnEval T Y env66 an i66.ps i66.rs true Tryz.f66.results.toList lv66 c66 := by kernel_rfl
theorem lo66 : loopsOf c66 = [] := by kernel_rfl
theorem ll66 : LoopsOk T Y env66 an lv66 (finO T true ps66 (.ty QS6) Tryz.f66.results.toList) c66 := loopsOk_of (by rw [lo66]; exact trivial)
theorem k66 : FnOk Tryz.prog 66 i66 :=
  fn_ok (T := T) (Y := Y) (an := an) (env := env66) (fr := true) (lenv := lv66) mixed tok.1 tok.2 (envNil) (fn := Tryz.f66) (c := c66) (by kernel_rfl) (by kernel_rfl) (by kernel_rfl) ll66 (fun a => congrFun e66 a)
/-! ### broker/vote.lead -/
noncomputable def c67 : Code := Tryz.f67.body.getD .skip
noncomputable def env67 : Env := mkEnv []
abbrev ps67 : List PSh := [.d QS6]
abbrev D67 : Type := pairD (.ty QS6) (osOf ps67)
noncomputable def lv67 : Nat → Option (LI D67) := fun _ => none
noncomputable def g67 (a0_0 : Int) (a0_1 : Int) (a0_2 : Int) (a0_3 : Int) (a0_4 : Int) (a0_5 : Int) (a0_6 : List Int) : Option QT3 :=
  some ((a0_0, a0_1, a0_2, 2, a0_4, a0_0, []))
noncomputable def i67 : FI := ⟨ps67, .ty QS6, fun (a0_0, a0_1, a0_2, a0_3, a0_4, a0_5, a0_6) => g67 a0_0 a0_1 a0_2 a0_3 a0_4 a0_5 a0_6⟩
theorem e67 : (fun a => i67.G a) = fnEval T Y env67 an i67.ps i67.rs true Tryz.f67.results.toList lv67 c67 := by kernel_rfl
theorem lo67 : loopsOf c67 = [] := by kernel_rfl
theorem ll67 : LoopsOk T Y env67 an lv67 (finO T true ps67 (.ty QS6) Tryz.f67.results.toList) c67 := loopsOk_of (by rw [lo67]; exact trivial)
theorem k67 : FnOk Tryz.prog 67 i67 :=
  fn_ok (T := T) (Y := Y) (an := an) (env := env67) (fr := true) (lenv := lv67) mixed tok.1 tok.2 (envNil) (fn := Tryz.f67) (c := c67) (by kernel_rfl) (by kernel_rfl) (by kernel_rfl) ll67 (fun a => congrFun e67 a)
/-! ### broker/vote.concerns -/
noncomputable def c73 : Code := Tryz.f73.body.getD .skip
noncomputable def env73 : Env := mkEnv []
abbrev ps73 : List PSh := [.d QS6, .d QS5]
abbrev D73 : Type := pairD (.ty .b) (osOf ps73)
noncomputable def lv73 : Nat → Option (LI D73) := fun _ => none
noncomputable def g73 (a0_0 : Int) (a0_1 : Int) (a0_2 : Int) (a0_3 : Int) (a0_4 : Int) (a0_5 : Int) (a0_6 : List Int) (a1_0 : Int) (a1_1 : Int) (a1_2 : Int) (a1_3 : Int) (a1_4 : Int) (a1_5 : Int) (a1_6 : Int) (a1_7 : Bool) (a1_8 : List (Int × List UInt8)) : Option (Bool) :=
  cond (a1_2 == a0_0)
    (cond (a1_1 != a0_0)
      (cond (decide (a1_1 ≥ 0))
        (cond (decide (a1_1 < a0_1))
          (cond (decide (a1_3 ≥ 1))
            (some (decide (a1_3 ≤ 1099511627776)))
            (some (false)))
          (some (false)))
        (some (false)))
      (some (false)))
    (some (false))
noncomputable def i73 : FI := ⟨ps73, .ty .b, fun ((a0_0, a0_1, a0_2, a0_3, a0_4, a0_5, a0_6), (a1_0, a1_1, a1_2, a1_3, a1_4, a1_5, a1_6, a1_7, a1_8)) => g73 a0_0 a0_1 a0_2 a0_3 a0_4 a0_5 a0_6 a1_0 a1_1 a1_2 a1_3 a1_4 a1_5 a1_6 a1_7 a1_8⟩
theorem e73 : (fun a => i73.G a) = fnEval T Y env73 an i73.ps i73.rs true Tryz.f73.results.toList lv73 c73 := by kernel_rfl
theorem lo73 : loopsOf c73 = [] := by kernel_rfl
theorem ll73 : LoopsOk T Y env73 an lv73 (finO T true ps73 (.ty .b) Tryz.f73.results.toList) c73 := loopsOk_of (by rw [lo73]; exact trivial)
theorem k73 : FnOk Tryz.prog 73 i73 :=
  fn_ok (T := T) (Y := Y) (an := an) (env := env73) (fr := true) (lenv := lv73) mixed tok.1 tok.2 (envNil) (fn := Tryz.f73) (c := c73) (by kernel_rfl) (by kernel_rfl) (by kernel_rfl) ll73 (fun a => congrFun e73 a)
/-! ### broker/vote.Observe -/
noncomputable def c74 : Code := Tryz.f74.body.getD .skip
noncomputable def env74 : Env := mkEnv [(65, i65), (66, i66)]
abbrev ps74 : List PSh := [.d QS6, .d (.i .i64)]
abbrev D74 : Type := pairD (.ty QS6) (osOf ps74)
noncomputable def lv74 : Nat → Option (LI D74) := fun _ => none
noncomputable def g74 (a0_0 : Int) (a0_1 : Int) (a0_2 : Int) (a0_3 : Int) (a0_4 : Int) (a0_5 : Int) (a0_6 : List Int) (a1 : Int) : Option QT3 :=
  cond (decide (a1 ≤ a0_2))
    (Option.bind (g65 a0_0 a0_1 a0_2 a0_3 a0_4 a0_5 a0_6) fun v1 =>
    some (v1))
    (cond (decide (a1 > 1099511627776))
      (Option.bind (g65 a0_0 a0_1 a0_2 a0_3 a0_4 a0_5 a0_6) fun v2 =>
      some (v2))
      (Option.bind (g66 a0_0 a0_1 a0_2 a0_3 a0_4 a0_5 a0_6 a1) fun v3 =>
      some (v3)))
noncomputable def i74 : FI := ⟨ps74, .ty QS6, fun ((a0_0, a0_1, a0_2, a0_3, a0_4, a0_5, a0_6), a1) => g74 a0_0 a0_1 a0_2 a0_3 a0_4 a0_5 a0_6 a1⟩
theorem e74 : (fun a => i74.G a) = fnEval T Y env74 an i74.ps i74.rs true Tryz.f74.results.toList lv74 c74 := by kernel_rfl
theorem lo74 : loopsOf c74 = [] := by kernel_rfl
theorem ll74 : LoopsOk T Y env74 an lv74 (finO T true ps74 (.ty QS6) Tryz.f74.results.toList) c74 := loopsOk_of (by rw [lo74]; exact trivial)
theorem k74 : FnOk Tryz.prog 74 i74 :=
  fn_ok (T := T) (Y := Y) (an := an) (env := env74) (fr := true) (lenv := lv74) mixed tok.1 tok.2 (envCons k65 (envCons k66 (envNil))) (fn := Tryz.f74) (c := c74) (by kernel_rfl) (by kernel_rfl) (by kernel_rfl) ll74 (fun a => congrFun e74 a)
/-! ### broker/vote.Campaign -/
noncomputable def c33 : Code := Tryz.f33.body.getD .skip
noncomputable def env33 : Env := mkEnv [(65, i65), (66, i66), (67, i67)]
abbrev ps33 : List PSh := [.d QS6, .d (.i .i64), .d (.i .i64)]
abbrev D33 : Type := pairD (.tup (.pr (.ty QS6) (.ty QS4))) (osOf ps33)
def ns33_0 : NS := { slots := [(3, .pt 3 []), (6, .pt 6 []), (8, .pt 8 []), (9, .hw 53), (1, .ty (.i .i64)), (2, .ty (.i .i64)), (35, .ty (.i .i64)), (36, .ty (.i .i64))], roots := [(53, .ar 9 QS5), (8, .ag (.pr (.ty (.i .i64)) (.pr (.ty (.i .i64)) (.pr (.ty (.i .i64)) (.pr (.ty (.i .i64)) (.pr (.ty (.i .i64)) (.pr (.ty (.i .i64)) (.hw 31)))))))), (6, .ty QS6), (3, .ty QS6), (31, .ar 1 (.i .i64))], ad := [{ t := 9, path := [], g := 53, d := 9, τ := (QS5 : Ty) }] }
def ex33_0 : List (Nat × NS) := [(0, { slots := [(6, .pt 6 []), (8, .pt 8 []), (9, .hw 53)], roots := [(53, .ar 9 QS5), (8, .ag (.pr (.ty (.i .i64)) (.pr (.ty (.i .i64)) (.pr (.ty (.i .i64)) (.pr (.ty (.i .i64)) (.pr (.ty (.i .i64)) (.pr (.ty (.i .i64)) (.hw 31)))))))), (6, .ty QS6), (31, .ar 1 (.i .i64))] })]
noncomputable def st33_0 (ih : ((Int × Int × Int × Int) × ((List QT2) × (Int × Int × Int × Int × Int × Int × Unit) × (Int × Int × Int × Int × Int × Int × List Int) × (Int × Int × Int × Int × Int × Int × List Int) × List Int)) → Option (((Unit) × ((List QT2) × (Int × Int × Int × Int × Int × Int × Unit) × (Int × Int × Int × Int × Int × Int × List Int) × List Int)) ⊕ (((Int × Int × Int × Int × Int × Int × List Int) × List QT2)))) : ((Int × Int × Int × Int) × ((List QT2) × (Int × Int × Int × Int × Int × Int × Unit) × (Int × Int × Int × Int × Int × Int × List Int) × (Int × Int × Int × Int × Int × Int × List Int) × List Int)) → Option (((Unit) × ((List QT2) × (Int × Int × Int × Int × Int × Int × Unit) × (Int × Int × Int × Int × Int × Int × List Int) × List Int)) ⊕ (((Int × Int × Int × Int × Int × Int × List Int) × List QT2))) := fun ((t1, t2, t35, t36), (r53, (r8_0, r8_1, r8_2, r8_3, r8_4, r8_5, ()), (r6_0, r6_1, r6_2, r6_3, r6_4, r6_5, r6_6), (r3_0, r3_1, r3_2, r3_3, r3_4, r3_5, r3_6), r31)) =>
  cond (decide (t36 < t35))
    (cond (t36 != r3_0)
      (cond (decide (r53.length + 1 ≤ 2147483647))
        (ih ((t1, t2, t35, IntKind.i64.wrap (t36 + 1)), r53 ++ [(1, r3_0, t36, r8_2, t1, t2, 0, false, [])], (r8_0, r8_1, r8_2, r8_3, r8_4, r8_5, ()), (r6_0, r6_1, r6_2, r6_3, r6_4, r6_5, r6_6), (r3_0, r3_1, r3_2, r3_3, r3_4, r3_5, r3_6), r31))
        (none))
      (ih ((t1, t2, t35, IntKind.i64.wrap (t36 + 1)), r53, (r8_0, r8_1, r8_2, r8_3, r8_4, r8_5, ()), (r6_0, r6_1, r6_2, r6_3, r6_4, r6_5, r6_6), (r3_0, r3_1, r3_2, r3_3, r3_4, r3_5, r3_6), r31)))
    (some (Sum.inl ((), r53, (r8_0, r8_1, r8_2, r8_3, r8_4, r8_5, ()), (r6_0, r6_1, r6_2, r6_3, r6_4, r6_5, r6_6), r31)))
noncomputable def h33_0 : ((Int × Int × Int × Int) × ((List QT2) × (Int × Int × Int × Int × Int × Int × Unit) × (Int × Int × Int × Int × Int × Int × List Int) × (Int × Int × Int × Int × Int × Int × List Int) × List Int)) → Option (((Unit) × ((List QT2) × (Int × Int × Int × Int × Int × Int × Unit) × (Int × Int × Int × Int × Int × Int × List Int) × List Int)) ⊕ (((Int × Int × Int × Int × Int × Int × List Int) × List QT2))) := loopN st33_0 fuel
noncomputable def l33_0 : LI D33 := ⟨ns33_0, ex33_0, h33_0⟩
noncomputable def lv33 : Nat → Option (LI D33) := fun q => if q = 10 then some l33_0 else (fun _ => none) q
noncomputable def g33 (a0_0 : Int) (a0_1 : Int) (a0_2 : Int) (a0_3 : Int) (a0_4 : Int) (a0_5 : Int) (a0_6 : List Int) (a1 : Int) (a2 : Int) : Option ((Int × Int × Int × Int × Int × Int × List Int) × List QT2) :=
  cond (decide (a0_2 ≥ 1099511627776))
    (Option.bind (g65 a0_0 a0_1 a0_2 a0_3 a0_4 a0_5 a0_6) fun v1 =>
    some ((v1, [])))
    (Option.bind (g66 a0_0 a0_1 a0_2 a0_3 a0_4 a0_5 a0_6 (IntKind.i64.wrap (a0_2 + 1))) fun v2 =>
    cond (a0_1 == 1)
      (Option.bind (g67 v2.1 v2.2.1 v2.2.2.1 v2.2.2.2.1 a0_0 v2.2.2.2.2.2.1 v2.2.2.2.2.2.2) fun v3 =>
      some ((v3, [])))
      (Option.bind (h33_0 ((a1, a2, a0_1, 0), [], (v2.1, v2.2.1, v2.2.2.1, 1, a0_0, v2.2.2.2.2.2.1, ()), (0, 0, 0, 0, 0, 0, []), (a0_0, a0_1, a0_2, a0_3, a0_4, a0_5, a0_6), [a0_0])) fun v4 =>
      match v4 with
      | .inl x5 =>
        some (((x5.2.2.1.1, x5.2.2.1.2.1, x5.2.2.1.2.2.1, x5.2.2.1.2.2.2.1, x5.2.2.1.2.2.2.2.1, x5.2.2.1.2.2.2.2.2.1, x5.2.2.2.2), x5.2.1))
      | .inr x5 =>
        some (x5)))
noncomputable def i33 : FI := ⟨ps33, .tup (.pr (.ty QS6) (.ty QS4)), fun ((a0_0, a0_1, a0_2, a0_3, a0_4, a0_5, a0_6), a1, a2) => g33 a0_0 a0_1 a0_2 a0_3 a0_4 a0_5 a0_6 a1 a2⟩
theorem s33_0 : st33_0 = stepEval T Y env33 an lv33 (finO T true ps33 (.tup (.pr (.ty QS6) (.ty QS4))) Tryz.f33.results.toList) (loopAt c33 0) ns33_0 ex33_0 := by kernel_rfl
theorem e33 : (fun a => i33.G a) = fnEval T Y env33 an i33.ps i33.rs true Tryz.f33.results.toList lv33 c33 := by kernel_rfl
theorem lo33 : loopsOf c33 = [loopAt c33 0] := by kernel_rfl
theorem ll33 : LoopsOk T Y env33 an lv33 (finO T true ps33 (.tup (.pr (.ty QS6) (.ty QS4))) Tryz.f33.results.toList) c33 := loopsOk_of (by rw [lo33]; exact ⟨loop1 (li := l33_0) (by kernel_rfl) (by kernel_rfl) s33_0, trivial⟩)
theorem k33 : FnOk Tryz.prog 33 i33 :=
  fn_ok (T := T) (Y := Y) (an := an) (env := env33) (fr := true) (lenv := lv33) mixed tok.1 tok.2 (envCons k65 (envCons k66 (envCons k67 (envNil)))) (fn := Tryz.f33) (c := c33) (by kernel_rfl) (by kernel_rfl) (by kernel_rfl) ll33 (fun a => congrFun e33 a)
/-! ### broker/vote.Answer -/
noncomputable def c44 : Code := Tryz.f44.body.getD .skip
noncomputable def env44 : Env := mkEnv [(73, i73), (65, i65), (74, i74)]
abbrev ps44 : List PSh := [.d QS6, .d QS5, .d (.i .i64), .d (.i .i64)]
abbrev D44 : Type := pairD (.tup (.pr (.ty QS6) (.ty QS5))) (osOf ps44)
noncomputable def lv44 : Nat → Option (LI D44) := fun _ => none
noncomputable def g44 (a0_0 : Int) (a0_1 : Int) (a0_2 : Int) (a0_3 : Int) (a0_4 : Int) (a0_5 : Int) (a0_6 : List Int) (a1_0 : Int) (a1_1 : Int) (a1_2 : Int) (a1_3 : Int) (a1_4 : Int) (a1_5 : Int) (a1_6 : Int) (a1_7 : Bool) (a1_8 : List (Int × List UInt8)) (a2 : Int) (a3 : Int) : Option ((Int × Int × Int × Int × Int × Int × List Int) × Int × Int × Int × Int × Int × Int × Int × Bool × List (Int × List UInt8)) :=
  cond (a1_0 != 1)
    (Option.bind (g65 a0_0 a0_1 a0_2 a0_3 a0_4 a0_5 a0_6) fun v1 =>
    some ((v1, 0, 0, 0, 0, 0, 0, 0, false, [])))
    (Option.bind (g73 a0_0 a0_1 a0_2 a0_3 a0_4 a0_5 a0_6 a1_0 a1_1 a1_2 a1_3 a1_4 a1_5 a1_6 a1_7 a1_8) fun v2 =>
    cond (!v2)
      (Option.bind (g65 a0_0 a0_1 a0_2 a0_3 a0_4 a0_5 a0_6) fun v3 =>
      some ((v3, 0, 0, 0, 0, 0, 0, 0, false, [])))
      (Option.bind (g74 a0_0 a0_1 a0_2 a0_3 a0_4 a0_5 a0_6 a1_3) fun v4 =>
      cond (decide (a1_5 > a3))
        (cond (a1_3 == v4.2.2.1)
          (cond (v4.2.2.2.2.1 == -1)
            (some (((v4.1, v4.2.1, v4.2.2.1, v4.2.2.2.1, a1_1, v4.2.2.2.2.2), 2, a0_0, a1_1, v4.2.2.1, 0, 0, 0, true, [])))
            (cond (v4.2.2.2.2.1 == a1_1)
              (some (((v4.1, v4.2.1, v4.2.2.1, v4.2.2.2.1, a1_1, v4.2.2.2.2.2), 2, a0_0, a1_1, v4.2.2.1, 0, 0, 0, true, [])))
              (some ((v4, 2, a0_0, a1_1, v4.2.2.1, 0, 0, 0, false, [])))))
          (some ((v4, 2, a0_0, a1_1, v4.2.2.1, 0, 0, 0, false, []))))
        (cond (a1_5 == a3)
          (cond (a1_3 == v4.2.2.1)
            (cond (v4.2.2.2.2.1 == -1)
              (cond (decide (a1_4 ≥ a2))
                (some (((v4.1, v4.2.1, v4.2.2.1, v4.2.2.2.1, a1_1, v4.2.2.2.2.2), 2, a0_0, a1_1, v4.2.2.1, 0, 0, 0, decide (a1_4 ≥ a2), [])))
                (some ((v4, 2, a0_0, a1_1, v4.2.2.1, 0, 0, 0, decide (a1_4 ≥ a2), []))))
              (cond (v4.2.2.2.2.1 == a1_1)
                (cond (decide (a1_4 ≥ a2))
                  (some (((v4.1, v4.2.1, v4.2.2.1, v4.2.2.2.1, a1_1, v4.2.2.2.2.2), 2, a0_0, a1_1, v4.2.2.1, 0, 0, 0, decide (a1_4 ≥ a2), [])))
                  (some ((v4, 2, a0_0, a1_1, v4.2.2.1, 0, 0, 0, decide (a1_4 ≥ a2), []))))
                (some ((v4, 2, a0_0, a1_1, v4.2.2.1, 0, 0, 0, false, [])))))
            (some ((v4, 2, a0_0, a1_1, v4.2.2.1, 0, 0, 0, false, []))))
          (cond (a1_3 == v4.2.2.1)
            (cond (v4.2.2.2.2.1 == -1)
              (some ((v4, 2, a0_0, a1_1, v4.2.2.1, 0, 0, 0, false, [])))
              (cond (v4.2.2.2.2.1 == a1_1)
                (some ((v4, 2, a0_0, a1_1, v4.2.2.1, 0, 0, 0, false, [])))
                (some ((v4, 2, a0_0, a1_1, v4.2.2.1, 0, 0, 0, false, [])))))
            (some ((v4, 2, a0_0, a1_1, v4.2.2.1, 0, 0, 0, false, [])))))))
noncomputable def i44 : FI := ⟨ps44, .tup (.pr (.ty QS6) (.ty QS5)), fun ((a0_0, a0_1, a0_2, a0_3, a0_4, a0_5, a0_6), (a1_0, a1_1, a1_2, a1_3, a1_4, a1_5, a1_6, a1_7, a1_8), a2, a3) => g44 a0_0 a0_1 a0_2 a0_3 a0_4 a0_5 a0_6 a1_0 a1_1 a1_2 a1_3 a1_4 a1_5 a1_6 a1_7 a1_8 a2 a3⟩
theorem e44 : (fun a => i44.G a) = fnEval T Y env44 an i44.ps i44.rs true Tryz.f44.results.toList lv44 c44 := by kernel_rfl
theorem lo44 : loopsOf c44 = [] := by kernel_rfl
theorem ll44 : LoopsOk T Y env44 an lv44 (finO T true ps44 (.tup (.pr (.ty QS6) (.ty QS5))) Tryz.f44.results.toList) c44 := loopsOk_of (by rw [lo44]; exact trivial)
theorem k44 : FnOk Tryz.prog 44 i44 :=
  fn_ok (T := T) (Y := Y) (an := an) (env := env44) (fr := true) (lenv := lv44) mixed tok.1 tok.2 (envCons k73 (envCons k65 (envCons k74 (envNil)))) (fn := Tryz.f44) (c := c44) (by kernel_rfl) (by kernel_rfl) (by kernel_rfl) ll44 (fun a => congrFun e44 a)
/-! ### broker/vote.Count -/
noncomputable def c46 : Code := Tryz.f46.body.getD .skip
noncomputable def env46 : Env := mkEnv [(73, i73), (65, i65), (74, i74), (71, i71), (67, i67)]
abbrev ps46 : List PSh := [.d QS6, .d QS5]
abbrev D46 : Type := pairD (.ty QS6) (osOf ps46)
def ns46_1 : NS := { slots := [(4, .pt 4 []), (5, .pt 5 []), (56, .ar 1 .b), (57, .ty (.i .i64))], roots := [(66, .ar 1 (.i .i64)), (5, .ag (.pr (.ty (.i .i64)) (.pr (.ty (.i .i64)) (.pr (.ty (.i .i64)) (.pr (.ty (.i .i64)) (.pr (.ty (.i .i64)) (.pr (.ty (.i .i64)) (.hw 66)))))))), (4, .ty QS6)], ad := [{ t := 5, path := [(6, 6)], g := 66, d := 1, τ := (.i .i64 : Ty) }] }
def ex46_1 : List (Nat × NS) := [(2, { slots := [(4, .pt 4 []), (5, .pt 5 [])], roots := [(5, .ag (.pr (.ty (.i .i64)) (.pr (.ty (.i .i64)) (.pr (.ty (.i .i64)) (.pr (.ty (.i .i64)) (.pr (.ty (.i .i64)) (.pr (.ty (.i .i64)) (.hw 66)))))))), (4, .ty QS6), (66, .ar 1 (.i .i64))] })]
noncomputable def st46_1 (ih : ((List Bool × Int) × (List Int × (Int × Int × Int × Int × Int × Int × Unit) × Int × Int × Int × Int × Int × Int × List Int)) → Option (((Unit) × ((Int × Int × Int × Int × Int × Int × Unit) × (Int × Int × Int × Int × Int × Int × List Int) × List Int)) ⊕ (QT3))) : ((List Bool × Int) × (List Int × (Int × Int × Int × Int × Int × Int × Unit) × Int × Int × Int × Int × Int × Int × List Int)) → Option (((Unit) × ((Int × Int × Int × Int × Int × Int × Unit) × (Int × Int × Int × Int × Int × Int × List Int) × List Int)) ⊕ (QT3)) := fun ((t56, t57), (r66, (r5_0, r5_1, r5_2, r5_3, r5_4, r5_5, ()), (r4_0, r4_1, r4_2, r4_3, r4_4, r4_5, r4_6))) =>
  cond (decide (t57 < 7))
    (cond (decide (0 ≤ t57) && decide (t57 < (↑7 : Int)) && decide (t57 < (↑t56.length : Int)))
      (cond (t56.getD t57.toNat false)
        (cond (decide (r66.length + 1 ≤ 2147483647))
          (ih ((t56, IntKind.i64.wrap (t57 + 1)), r66 ++ [t57], (r5_0, r5_1, r5_2, r5_3, r5_4, r5_5, ()), r4_0, r4_1, r4_2, r4_3, r4_4, r4_5, r4_6))
          (none))
        (ih ((t56, IntKind.i64.wrap (t57 + 1)), r66, (r5_0, r5_1, r5_2, r5_3, r5_4, r5_5, ()), r4_0, r4_1, r4_2, r4_3, r4_4, r4_5, r4_6)))
      (none))
    (some (Sum.inl ((), (r5_0, r5_1, r5_2, r5_3, r5_4, r5_5, ()), (r4_0, r4_1, r4_2, r4_3, r4_4, r4_5, r4_6), r66)))
noncomputable def h46_1 : ((List Bool × Int) × (List Int × (Int × Int × Int × Int × Int × Int × Unit) × Int × Int × Int × Int × Int × Int × List Int)) → Option (((Unit) × ((Int × Int × Int × Int × Int × Int × Unit) × (Int × Int × Int × Int × Int × Int × List Int) × List Int)) ⊕ (QT3)) := loopN st46_1 fuel
noncomputable def l46_1 : LI D46 := ⟨ns46_1, ex46_1, h46_1⟩
def ns46_0 : NS := { slots := [(4, .pt 4 []), (5, .pt 5 []), (6, .pt 6 []), (46, .ty (.sl (.i .i64))), (47, .ty (.i .i64)), (48, .ty (.i .i64))], roots := [(6, .ar 1 .b), (5, .ty QS6), (4, .ty QS6)] }
def ex46_0 : List (Nat × NS) := [(0, { slots := [(4, .pt 4 []), (5, .pt 5 []), (6, .pt 6 [])], roots := [(6, .ar 1 .b), (5, .ty QS6), (4, .ty QS6)] })]
noncomputable def st46_0 (ih : ((List Int × Int × Int) × (List Bool × (Int × Int × Int × Int × Int × Int × List Int) × Int × Int × Int × Int × Int × Int × List Int)) → Option (((Unit) × (List Bool × (Int × Int × Int × Int × Int × Int × List Int) × Int × Int × Int × Int × Int × Int × List Int)) ⊕ (QT3))) : ((List Int × Int × Int) × (List Bool × (Int × Int × Int × Int × Int × Int × List Int) × Int × Int × Int × Int × Int × Int × List Int)) → Option (((Unit) × (List Bool × (Int × Int × Int × Int × Int × Int × List Int) × Int × Int × Int × Int × Int × Int × List Int)) ⊕ (QT3)) := fun ((t46, t47, t48), (r6, (r5_0, r5_1, r5_2, r5_3, r5_4, r5_5, r5_6), (r4_0, r4_1, r4_2, r4_3, r4_4, r4_5, r4_6))) =>
  cond (decide (t48 < t47))
    (cond (decide (0 ≤ t48) && decide (t48 < (↑t46.length : Int)))
      (cond (decide (0 ≤ t46.getD t48.toNat 0) && decide (t46.getD t48.toNat 0 < (↑7 : Int)))
        (cond (decide ((t46.getD t48.toNat 0).toNat < r6.length))
          (ih ((t46, t47, IntKind.i64.wrap (t48 + 1)), r6.set (t46.getD t48.toNat 0).toNat true, (r5_0, r5_1, r5_2, r5_3, r5_4, r5_5, r5_6), r4_0, r4_1, r4_2, r4_3, r4_4, r4_5, r4_6))
          (none))
        (none))
      (none))
    (some (Sum.inl ((), r6, (r5_0, r5_1, r5_2, r5_3, r5_4, r5_5, r5_6), r4_0, r4_1, r4_2, r4_3, r4_4, r4_5, r4_6)))
noncomputable def h46_0 : ((List Int × Int × Int) × (List Bool × (Int × Int × Int × Int × Int × Int × List Int) × Int × Int × Int × Int × Int × Int × List Int)) → Option (((Unit) × (List Bool × (Int × Int × Int × Int × Int × Int × List Int) × Int × Int × Int × Int × Int × Int × List Int)) ⊕ (QT3)) := loopN st46_0 fuel
noncomputable def l46_0 : LI D46 := ⟨ns46_0, ex46_0, h46_0⟩
noncomputable def lv46 : Nat → Option (LI D46) := fun q => if q = 9 then some l46_0 else (fun q => if q = 15 then some l46_1 else (fun _ => none) q) q
noncomputable def g46 (a0_0 : Int) (a0_1 : Int) (a0_2 : Int) (a0_3 : Int) (a0_4 : Int) (a0_5 : Int) (a0_6 : List Int) (a1_0 : Int) (a1_1 : Int) (a1_2 : Int) (a1_3 : Int) (a1_4 : Int) (a1_5 : Int) (a1_6 : Int) (a1_7 : Bool) (a1_8 : List (Int × List UInt8)) : Option QT3 :=
  cond (a1_0 != 2)
    (Option.bind (g65 a0_0 a0_1 a0_2 a0_3 a0_4 a0_5 a0_6) fun v1 =>
    some (v1))
    (Option.bind (g73 a0_0 a0_1 a0_2 a0_3 a0_4 a0_5 a0_6 a1_0 a1_1 a1_2 a1_3 a1_4 a1_5 a1_6 a1_7 a1_8) fun v2 =>
    cond (!v2)
      (Option.bind (g65 a0_0 a0_1 a0_2 a0_3 a0_4 a0_5 a0_6) fun v3 =>
      some (v3))
      (Option.bind (g74 a0_0 a0_1 a0_2 a0_3 a0_4 a0_5 a0_6 a1_3) fun v4 =>
      cond (a1_3 != v4.2.2.1)
        (some (v4))
        (cond (v4.2.2.2.1 != 1)
          (some (v4))
          (cond (!a1_7)
            (some (v4))
            (cond (decide (0 ≤ a1_1) && decide (a1_1 < (↑7 : Int)))
              (cond (decide (a1_1.toNat < 7))
                (Option.bind (h46_0 ((v4.2.2.2.2.2.2, (↑(List.length v4.2.2.2.2.2.2) : Int), 0), [false, false, false, false, false, false, false].set a1_1.toNat true, v4, 0, 0, 0, 0, 0, 0, [])) fun v5 =>
                match v5 with
                | .inl x6 =>
                  cond (true == true && true && 1 * List.length x6.2.1 == 7 && true)
                    (Option.bind (h46_1 ((x6.2.1, 0), [], (x6.2.2.1.1, x6.2.2.1.2.1, x6.2.2.1.2.2.1, x6.2.2.1.2.2.2.1, x6.2.2.1.2.2.2.2.1, x6.2.2.1.2.2.2.2.2.1, ()), x6.2.2.2)) fun v7 =>
                    match v7 with
                    | .inl x8 =>
                      Option.bind (g71 (↑(List.length x8.2.2.2) : Int) x8.2.1.2.1) fun v9 =>
                      cond (v9)
                        (Option.bind (g67 x8.2.1.1 x8.2.1.2.1 x8.2.1.2.2.1 x8.2.1.2.2.2.1 x8.2.1.2.2.2.2.1 x8.2.1.2.2.2.2.2.1 x8.2.2.2) fun v10 =>
                        some (v10))
                        (some ((x8.2.1.1, x8.2.1.2.1, x8.2.1.2.2.1, x8.2.1.2.2.2.1, x8.2.1.2.2.2.2.1, x8.2.1.2.2.2.2.2.1, x8.2.2.2)))
                    | .inr x8 =>
                      some (x8))
                    (none)
                | .inr x6 =>
                  some (x6))
                (none))
              (none))))))
noncomputable def i46 : FI := ⟨ps46, .ty QS6, fun ((a0_0, a0_1, a0_2, a0_3, a0_4, a0_5, a0_6), (a1_0, a1_1, a1_2, a1_3, a1_4, a1_5, a1_6, a1_7, a1_8)) => g46 a0_0 a0_1 a0_2 a0_3 a0_4 a0_5 a0_6 a1_0 a1_1 a1_2 a1_3 a1_4 a1_5 a1_6 a1_7 a1_8⟩
theorem s46_1 : st46_1 = stepEval T Y env46 an lv46 (finO T true ps46 (.ty QS6) Tryz.f46.results.toList) (loopAt c46 1) ns46_1 ex46_1 := by kernel_rfl
theorem s46_0 : st46_0 = stepEval T Y env46 an lv46 (finO T true ps46 (.ty QS6) Tryz.f46.results.toList) (loopAt c46 0) ns46_0 ex46_0 := by kernel_rfl
theorem e46 : (fun a => i46.G a) = fnEval T Y env46 an i46.ps i46.rs true Tryz.f46.results.toList lv46 c46 := by kernel_rfl
theorem lo46 : loopsOf c46 = [loopAt c46 0, loopAt c46 1] := by kernel_rfl
theorem ll46 : LoopsOk T Y env46 an lv46 (finO T true ps46 (.ty QS6) Tryz.f46.results.toList) c46 := loopsOk_of (by rw [lo46]; exact ⟨loop1 (li := l46_0) (by kernel_rfl) (by kernel_rfl) s46_0, ⟨loop1 (li := l46_1) (by kernel_rfl) (by kernel_rfl) s46_1, trivial⟩⟩)
theorem k46 : FnOk Tryz.prog 46 i46 :=
  fn_ok (T := T) (Y := Y) (an := an) (env := env46) (fr := true) (lenv := lv46) mixed tok.1 tok.2 (envCons k73 (envCons k65 (envCons k74 (envCons k71 (envCons k67 (envNil)))))) (fn := Tryz.f46) (c := c46) (by kernel_rfl) (by kernel_rfl) (by kernel_rfl) ll46 (fun a => congrFun e46 a)
/-! ### broker/replica.begin -/
noncomputable def c35 : Code := Tryz.f35.body.getD .skip
noncomputable def env35 : Env := mkEnv []
abbrev ps35 : List PSh := [.d QS1]
abbrev D35 : Type := pairD (.ty QS1) (osOf ps35)
noncomputable def lv35 : Nat → Option (LI D35) := fun _ => none
noncomputable def g35 (a0_0_0 : Int) (a0_0_1 : Int) (a0_0_2 : Int) (a0_0_3 : Int) (a0_0_4 : Int) (a0_0_5 : Int) (a0_0_6 : List Int) (a0_1 : Int) (a0_2 : List (Int × List UInt8)) (a0_3 : List Int) : Option ((Int × Int × Int × Int × Int × Int × List Int) × Int × List (Int × List UInt8) × List Int) :=
  cond (decide (0 ≤ a0_0_1) && decide (a0_0_1 ≤ a0_0_1) && decide (a0_0_1 ≤ 2147483647))
    (cond (decide (0 ≤ a0_0_0) && decide (a0_0_0 < (↑(List.replicate a0_0_1.toNat (0 : Int)).length : Int)))
      (cond (decide (a0_0_0.toNat < (List.replicate a0_0_1.toNat (0 : Int)).length))
        (some (((a0_0_0, a0_0_1, a0_0_2, a0_0_3, a0_0_4, a0_0_5, a0_0_6), a0_1, a0_2, (List.replicate a0_0_1.toNat 0).set a0_0_0.toNat (↑a0_2.length : Int))))
        (none))
      (none))
    (none)
noncomputable def i35 : FI := ⟨ps35, .ty QS1, fun ((a0_0_0, a0_0_1, a0_0_2, a0_0_3, a0_0_4, a0_0_5, a0_0_6), a0_1, a0_2, a0_3) => g35 a0_0_0 a0_0_1 a0_0_2 a0_0_3 a0_0_4 a0_0_5 a0_0_6 a0_1 a0_2 a0_3⟩
theorem e35 : (fun a => i35.G a) = fnEval T Y env35 an i35.ps i35.rs true Tryz.f35.results.toList lv35 c35 := by kernel_rfl
theorem lo35 : loopsOf c35 = [] := by kernel_rfl
theorem ll35 : LoopsOk T Y env35 an lv35 (finO T true ps35 (.ty QS1) Tryz.f35.results.toList) c35 := loopsOk_of (by rw [lo35]; exact trivial)
theorem k35 : FnOk Tryz.prog 35 i35 :=
  fn_ok (T := T) (Y := Y) (an := an) (env := env35) (fr := true) (lenv := lv35) mixed tok.1 tok.2 (envNil) (fn := Tryz.f35) (c := c35) (by kernel_rfl) (by kernel_rfl) (by kernel_rfl) ll35 (fun a => congrFun e35 a)
/-! ### broker/replica.withBallot -/
noncomputable def c45 : Code := Tryz.f45.body.getD .skip
noncomputable def env45 : Env := mkEnv [(32, i32)]
abbrev ps45 : List PSh := [.ow (.ag (.pr (.ty QS6) (.pr (.ty (.i .i64)) (.pr (.ow 2 (.st (.pr (.i .i64) .s))) (.ow 1 (.i .i64)))))), .d QS6]
abbrev D45 : Type := pairD (.ag (.pr (.ty QS6) (.pr (.ty (.i .i64)) (.pr (.ow 2 (.st (.pr (.i .i64) .s))) (.ow 1 (.i .i64)))))) (osOf ps45)
noncomputable def lv45 : Nat → Option (LI D45) := fun _ => none
noncomputable def g45 (a0_0_0 : Int) (a0_0_1 : Int) (a0_0_2 : Int) (a0_0_3 : Int) (a0_0_4 : Int) (a0_0_5 : Int) (a0_0_6 : List Int) (a0_1 : Int) (a0_2 : List (Int × List UInt8)) (a0_3 : List Int) (a1_0 : Int) (a1_1 : Int) (a1_2 : Int) (a1_3 : Int) (a1_4 : Int) (a1_5 : Int) (a1_6 : List Int) : Option ((Int × Int × Int × Int × Int × Int × List Int) × Int × (List (Int × List UInt8)) × List Int) :=
  Option.bind (g32 a1_0 a1_1 a1_2 a1_3 a1_4 a1_5 a1_6 a0_1 a0_2 a0_3) fun v1 =>
  cond (!v1)
    (some (((a1_0, a1_1, a1_2, a1_3, a1_4, a1_5, a1_6), a0_1, a0_2, [])))
    (some (((a1_0, a1_1, a1_2, a1_3, a1_4, a1_5, a1_6), a0_1, a0_2, a0_3)))
noncomputable def i45 : FI := ⟨ps45, .ag (.pr (.ty QS6) (.pr (.ty (.i .i64)) (.pr (.ow 2 (.st (.pr (.i .i64) .s))) (.ow 1 (.i .i64))))), fun (((a0_0_0, a0_0_1, a0_0_2, a0_0_3, a0_0_4, a0_0_5, a0_0_6), a0_1, a0_2, a0_3), (a1_0, a1_1, a1_2, a1_3, a1_4, a1_5, a1_6)) => g45 a0_0_0 a0_0_1 a0_0_2 a0_0_3 a0_0_4 a0_0_5 a0_0_6 a0_1 a0_2 a0_3 a1_0 a1_1 a1_2 a1_3 a1_4 a1_5 a1_6⟩
theorem e45 : (fun a => i45.G a) = fnEval T Y env45 an i45.ps i45.rs false Tryz.f45.results.toList lv45 c45 := by kernel_rfl
theorem lo45 : loopsOf c45 = [] := by kernel_rfl
theorem ll45 : LoopsOk T Y env45 an lv45 (finO T false ps45 (.ag (.pr (.ty QS6) (.pr (.ty (.i .i64)) (.pr (.ow 2 (.st (.pr (.i .i64) .s))) (.ow 1 (.i .i64)))))) Tryz.f45.results.toList) c45 := loopsOk_of (by rw [lo45]; exact trivial)
theorem k45 : FnOk Tryz.prog 45 i45 :=
  fn_ok (T := T) (Y := Y) (an := an) (env := env45) (fr := false) (lenv := lv45) mixed tok.1 tok.2 (envCons k32 (envNil)) (fn := Tryz.f45) (c := c45) (by kernel_rfl) (by kernel_rfl) (by kernel_rfl) ll45 (fun a => congrFun e45 a)
/-! ### broker/replica.appended -/
noncomputable def c49 : Code := Tryz.f49.body.getD .skip
noncomputable def env49 : Env := mkEnv [(74, i74), (45, i45), (32, i32), (39, i39)]
abbrev ps49 : List PSh := [.ow (.ag (.pr (.ty QS6) (.pr (.ty (.i .i64)) (.pr (.ow 2 (.st (.pr (.i .i64) .s))) (.ow 1 (.i .i64)))))), .d QS5]
abbrev D49 : Type := pairD (.ty QS1) (osOf ps49)
noncomputable def lv49 : Nat → Option (LI D49) := fun _ => none
noncomputable def g49 (a0_0_0 : Int) (a0_0_1 : Int) (a0_0_2 : Int) (a0_0_3 : Int) (a0_0_4 : Int) (a0_0_5 : Int) (a0_0_6 : List Int) (a0_1 : Int) (a0_2 : List (Int × List UInt8)) (a0_3 : List Int) (a1_0 : Int) (a1_1 : Int) (a1_2 : Int) (a1_3 : Int) (a1_4 : Int) (a1_5 : Int) (a1_6 : Int) (a1_7 : Bool) (a1_8 : List (Int × List UInt8)) : Option ((Int × Int × Int × Int × Int × Int × List Int) × Int × List (Int × List UInt8) × List Int) :=
  cond (decide (a1_3 > a0_0_2))
    (Option.bind (g74 a0_0_0 a0_0_1 a0_0_2 a0_0_3 a0_0_4 a0_0_5 a0_0_6 a1_3) fun v1 =>
    Option.bind (g45 a0_0_0 a0_0_1 a0_0_2 a0_0_3 a0_0_4 a0_0_5 a0_0_6 a0_1 a0_2 a0_3 v1.1 v1.2.1 v1.2.2.1 v1.2.2.2.1 v1.2.2.2.2.1 v1.2.2.2.2.2.1 v1.2.2.2.2.2.2) fun v2 =>
    some (v2))
    (cond (decide (a1_3 < a0_0_2))
      (some (((a0_0_0, a0_0_1, a0_0_2, a0_0_3, a0_0_4, a0_0_5, a0_0_6), a0_1, a0_2, a0_3)))
      (Option.bind (g32 a0_0_0 a0_0_1 a0_0_2 a0_0_3 a0_0_4 a0_0_5 a0_0_6 a0_1 a0_2 a0_3) fun v3 =>
      cond (!v3)
        (some (((a0_0_0, a0_0_1, a0_0_2, a0_0_3, a0_0_4, a0_0_5, a0_0_6), a0_1, a0_2, a0_3)))
        (cond (!a1_7)
          (some (((a0_0_0, a0_0_1, a0_0_2, a0_0_3, a0_0_4, a0_0_5, a0_0_6), a0_1, a0_2, a0_3)))
          (cond (decide (a1_4 < 0))
            (some (((a0_0_0, a0_0_1, a0_0_2, a0_0_3, a0_0_4, a0_0_5, a0_0_6), a0_1, a0_2, a0_3)))
            (cond (decide (a1_4 > (↑a0_2.length : Int)))
              (some (((a0_0_0, a0_0_1, a0_0_2, a0_0_3, a0_0_4, a0_0_5, a0_0_6), a0_1, a0_2, a0_3)))
              (cond (decide (0 ≤ a1_1) && decide (a1_1 < (↑a0_3.length : Int)))
                (cond (decide (a1_1.toNat < a0_3.length))
                  (cond (decide (a1_4 ≤ a0_3.getD a1_1.toNat 0))
                    (some (((a0_0_0, a0_0_1, a0_0_2, a0_0_3, a0_0_4, a0_0_5, a0_0_6), a0_1, a0_2, a0_3)))
                    (cond (decide (0 ≤ a1_1) && decide (a1_1 < (↑a0_3.length : Int)))
                      (cond (decide (a1_1.toNat < a0_3.length))
                        (Option.bind (g39 a0_0_0 a0_0_1 a0_0_2 a0_0_3 a0_0_4 a0_0_5 a0_0_6 a0_1 a0_2 (a0_3.set a1_1.toNat a1_4)) fun v4 =>
                        some (v4))
                        (none))
                      (none)))
                  (none))
                (none)))))))
noncomputable def i49 : FI := ⟨ps49, .ty QS1, fun (((a0_0_0, a0_0_1, a0_0_2, a0_0_3, a0_0_4, a0_0_5, a0_0_6), a0_1, a0_2, a0_3), (a1_0, a1_1, a1_2, a1_3, a1_4, a1_5, a1_6, a1_7, a1_8)) => g49 a0_0_0 a0_0_1 a0_0_2 a0_0_3 a0_0_4 a0_0_5 a0_0_6 a0_1 a0_2 a0_3 a1_0 a1_1 a1_2 a1_3 a1_4 a1_5 a1_6 a1_7 a1_8⟩
theorem e49 : (fun a => i49.G a) = fnEval T Y env49 an i49.ps i49.rs true Tryz.f49.results.toList lv49 c49 := by kernel_rfl
theorem lo49 : loopsOf c49 = [] := by kernel_rfl
theorem ll49 : LoopsOk T Y env49 an lv49 (finO T true ps49 (.ty QS1) Tryz.f49.results.toList) c49 := loopsOk_of (by rw [lo49]; exact trivial)
theorem k49 : FnOk Tryz.prog 49 i49 :=
  fn_ok (T := T) (Y := Y) (an := an) (env := env49) (fr := true) (lenv := lv49) mixed tok.1 tok.2 (envCons k74 (envCons k45 (envCons k32 (envCons k39 (envNil))))) (fn := Tryz.f49) (c := c49) (by kernel_rfl) (by kernel_rfl) (by kernel_rfl) ll49 (fun a => congrFun e49 a)
/-! ### broker/replica.appendLog -/
noncomputable def c48 : Code := Tryz.f48.body.getD .skip
noncomputable def env48 : Env := mkEnv [(32, i32), (74, i74), (45, i45), (58, i58), (75, i75)]
abbrev ps48 : List PSh := [.ow (.ag (.pr (.ty QS6) (.pr (.ty (.i .i64)) (.pr (.ow 2 (.st (.pr (.i .i64) .s))) (.ow 1 (.i .i64)))))), .d QS5]
abbrev D48 : Type := pairD (.tup (.pr (.ty QS1) (.ty QS4))) (osOf ps48)
noncomputable def lv48 : Nat → Option (LI D48) := fun _ => none
noncomputable def g48 (a0_0_0 : Int) (a0_0_1 : Int) (a0_0_2 : Int) (a0_0_3 : Int) (a0_0_4 : Int) (a0_0_5 : Int) (a0_0_6 : List Int) (a0_1 : Int) (a0_2 : List (Int × List UInt8)) (a0_3 : List Int) (a1_0 : Int) (a1_1 : Int) (a1_2 : Int) (a1_3 : Int) (a1_4 : Int) (a1_5 : Int) (a1_6 : Int) (a1_7 : Bool) (a1_8 : List (Int × List UInt8)) : Option (((Int × Int × Int × Int × Int × Int × List Int) × Int × List (Int × List UInt8) × List Int) × List QT2) :=
  cond (decide (a1_3 < a0_0_2))
    (some ((((a0_0_0, a0_0_1, a0_0_2, a0_0_3, a0_0_4, a0_0_5, a0_0_6), a0_1, a0_2, a0_3), [(4, a0_0_0, a1_1, a0_0_2, 0, 0, 0, false, [])])))
    (cond (a1_3 == a0_0_2)
      (Option.bind (g32 a0_0_0 a0_0_1 a0_0_2 a0_0_3 a0_0_4 a0_0_5 a0_0_6 a0_1 a0_2 a0_3) fun v1 =>
      cond (v1)
        (some ((((a0_0_0, a0_0_1, a0_0_2, a0_0_3, a0_0_4, a0_0_5, a0_0_6), a0_1, a0_2, a0_3), [])))
        (Option.bind (g74 a0_0_0 a0_0_1 a0_0_2 a0_0_3 a0_0_4 a0_0_5 a0_0_6 a1_3) fun v2 =>
        Option.bind (g45 a0_0_0 a0_0_1 a0_0_2 a0_0_3 a0_0_4 a0_0_5 a0_0_6 a0_1 a0_2 a0_3 v2.1 v2.2.1 v2.2.2.1 0 v2.2.2.2.2.1 a1_1 []) fun v3 =>
        cond (decide (a1_4 > (↑(List.length v3.2.2.1) : Int)))
          (some ((v3, [(4, a0_0_0, a1_1, v2.2.2.1, 0, 0, 0, false, [])])))
          (Option.bind (g58 v3.2.2.1 a1_4) fun v4 =>
          cond (v4 != a1_5)
            (some ((v3, [(4, a0_0_0, a1_1, v2.2.2.1, 0, 0, 0, false, [])])))
            (cond (decide (IntKind.i64.wrap (a1_4 + (↑a1_8.length : Int)) > 4096))
              (some ((v3, [(4, a0_0_0, a1_1, v2.2.2.1, 0, 0, 0, false, [])])))
              (Option.bind (g75 v3.2.2.1 a1_0 a1_1 a1_2 a1_3 a1_4 a1_5 a1_6 a1_7 a1_8) fun v5 =>
              cond (v5.2)
                (cond (decide (IntKind.i64.wrap (a1_4 + v5.1) < v3.2.1))
                  (some ((v3, [(4, a0_0_0, a1_1, v2.2.2.1, 0, 0, 0, false, [])])))
                  (cond (v5.2)
                    (cond (decide (0 ≤ IntKind.i64.wrap (a1_4 + v5.1)) && decide (IntKind.i64.wrap (a1_4 + v5.1) ≤ (↑(List.length v3.2.2.1) : Int)) && true)
                      (cond (decide (0 ≤ v5.1) && decide (v5.1 ≤ (↑a1_8.length : Int)) && true)
                        (cond (decide ((IntKind.i64.wrap (a1_4 + v5.1)).toNat - 0 + (List.drop (Int.toNat v5.1) (List.take a1_8.length a1_8)).length ≤ 2147483647))
                          (some (((v3.1, if true = true then if (if false = true then if IntKind.i64.wrap (a1_4 + (↑a1_8.length : Int)) > a1_6 then IntKind.i64.wrap (a1_4 + (↑a1_8.length : Int)) else a1_6 else if IntKind.i64.wrap (a1_4 + (↑a1_8.length : Int)) < a1_6 then IntKind.i64.wrap (a1_4 + (↑a1_8.length : Int)) else a1_6) > v3.2.1 then if false = true then if IntKind.i64.wrap (a1_4 + (↑a1_8.length : Int)) > a1_6 then IntKind.i64.wrap (a1_4 + (↑a1_8.length : Int)) else a1_6 else if IntKind.i64.wrap (a1_4 + (↑a1_8.length : Int)) < a1_6 then IntKind.i64.wrap (a1_4 + (↑a1_8.length : Int)) else a1_6 else v3.2.1 else if (if false = true then if IntKind.i64.wrap (a1_4 + (↑a1_8.length : Int)) > a1_6 then IntKind.i64.wrap (a1_4 + (↑a1_8.length : Int)) else a1_6 else if IntKind.i64.wrap (a1_4 + (↑a1_8.length : Int)) < a1_6 then IntKind.i64.wrap (a1_4 + (↑a1_8.length : Int)) else a1_6) < v3.2.1 then if false = true then if IntKind.i64.wrap (a1_4 + (↑a1_8.length : Int)) > a1_6 then IntKind.i64.wrap (a1_4 + (↑a1_8.length : Int)) else a1_6 else if IntKind.i64.wrap (a1_4 + (↑a1_8.length : Int)) < a1_6 then IntKind.i64.wrap (a1_4 + (↑a1_8.length : Int)) else a1_6 else v3.2.1, List.take ((IntKind.i64.wrap (a1_4 + v5.1)).toNat - 0) (List.drop 0 v3.2.2.1) ++ List.drop (Int.toNat v5.1) (List.take a1_8.length a1_8), v3.2.2.2), [(4, a0_0_0, a1_1, v2.2.2.1, IntKind.i64.wrap (a1_4 + (↑a1_8.length : Int)), 0, 0, true, [])])))
                          (none))
                        (none))
                      (none))
                    (cond (decide (0 ≤ v5.1) && decide (v5.1 ≤ (↑a1_8.length : Int)) && true)
                      (cond (decide (List.length v3.2.2.1 + (List.drop (Int.toNat v5.1) (List.take a1_8.length a1_8)).length ≤ 2147483647))
                        (some (((v3.1, if true = true then if (if false = true then if IntKind.i64.wrap (a1_4 + (↑a1_8.length : Int)) > a1_6 then IntKind.i64.wrap (a1_4 + (↑a1_8.length : Int)) else a1_6 else if IntKind.i64.wrap (a1_4 + (↑a1_8.length : Int)) < a1_6 then IntKind.i64.wrap (a1_4 + (↑a1_8.length : Int)) else a1_6) > v3.2.1 then if false = true then if IntKind.i64.wrap (a1_4 + (↑a1_8.length : Int)) > a1_6 then IntKind.i64.wrap (a1_4 + (↑a1_8.length : Int)) else a1_6 else if IntKind.i64.wrap (a1_4 + (↑a1_8.length : Int)) < a1_6 then IntKind.i64.wrap (a1_4 + (↑a1_8.length : Int)) else a1_6 else v3.2.1 else if (if false = true then if IntKind.i64.wrap (a1_4 + (↑a1_8.length : Int)) > a1_6 then IntKind.i64.wrap (a1_4 + (↑a1_8.length : Int)) else a1_6 else if IntKind.i64.wrap (a1_4 + (↑a1_8.length : Int)) < a1_6 then IntKind.i64.wrap (a1_4 + (↑a1_8.length : Int)) else a1_6) < v3.2.1 then if false = true then if IntKind.i64.wrap (a1_4 + (↑a1_8.length : Int)) > a1_6 then IntKind.i64.wrap (a1_4 + (↑a1_8.length : Int)) else a1_6 else if IntKind.i64.wrap (a1_4 + (↑a1_8.length : Int)) < a1_6 then IntKind.i64.wrap (a1_4 + (↑a1_8.length : Int)) else a1_6 else v3.2.1, v3.2.2.1 ++ List.drop (Int.toNat v5.1) (List.take a1_8.length a1_8), v3.2.2.2), [(4, a0_0_0, a1_1, v2.2.2.1, IntKind.i64.wrap (a1_4 + (↑a1_8.length : Int)), 0, 0, true, [])])))
                        (none))
                      (none))))
                (cond (v5.2)
                  (cond (decide (0 ≤ IntKind.i64.wrap (a1_4 + v5.1)) && decide (IntKind.i64.wrap (a1_4 + v5.1) ≤ (↑(List.length v3.2.2.1) : Int)) && true)
                    (cond (decide (0 ≤ v5.1) && decide (v5.1 ≤ (↑a1_8.length : Int)) && true)
                      (cond (decide ((IntKind.i64.wrap (a1_4 + v5.1)).toNat - 0 + (List.drop (Int.toNat v5.1) (List.take a1_8.length a1_8)).length ≤ 2147483647))
                        (some (((v3.1, if true = true then if (if false = true then if IntKind.i64.wrap (a1_4 + (↑a1_8.length : Int)) > a1_6 then IntKind.i64.wrap (a1_4 + (↑a1_8.length : Int)) else a1_6 else if IntKind.i64.wrap (a1_4 + (↑a1_8.length : Int)) < a1_6 then IntKind.i64.wrap (a1_4 + (↑a1_8.length : Int)) else a1_6) > v3.2.1 then if false = true then if IntKind.i64.wrap (a1_4 + (↑a1_8.length : Int)) > a1_6 then IntKind.i64.wrap (a1_4 + (↑a1_8.length : Int)) else a1_6 else if IntKind.i64.wrap (a1_4 + (↑a1_8.length : Int)) < a1_6 then IntKind.i64.wrap (a1_4 + (↑a1_8.length : Int)) else a1_6 else v3.2.1 else if (if false = true then if IntKind.i64.wrap (a1_4 + (↑a1_8.length : Int)) > a1_6 then IntKind.i64.wrap (a1_4 + (↑a1_8.length : Int)) else a1_6 else if IntKind.i64.wrap (a1_4 + (↑a1_8.length : Int)) < a1_6 then IntKind.i64.wrap (a1_4 + (↑a1_8.length : Int)) else a1_6) < v3.2.1 then if false = true then if IntKind.i64.wrap (a1_4 + (↑a1_8.length : Int)) > a1_6 then IntKind.i64.wrap (a1_4 + (↑a1_8.length : Int)) else a1_6 else if IntKind.i64.wrap (a1_4 + (↑a1_8.length : Int)) < a1_6 then IntKind.i64.wrap (a1_4 + (↑a1_8.length : Int)) else a1_6 else v3.2.1, List.take ((IntKind.i64.wrap (a1_4 + v5.1)).toNat - 0) (List.drop 0 v3.2.2.1) ++ List.drop (Int.toNat v5.1) (List.take a1_8.length a1_8), v3.2.2.2), [(4, a0_0_0, a1_1, v2.2.2.1, IntKind.i64.wrap (a1_4 + (↑a1_8.length : Int)), 0, 0, true, [])])))
                        (none))
                      (none))
                    (none))
                  (cond (decide (0 ≤ v5.1) && decide (v5.1 ≤ (↑a1_8.length : Int)) && true)
                    (cond (decide (List.length v3.2.2.1 + (List.drop (Int.toNat v5.1) (List.take a1_8.length a1_8)).length ≤ 2147483647))
                      (some (((v3.1, if true = true then if (if false = true then if IntKind.i64.wrap (a1_4 + (↑a1_8.length : Int)) > a1_6 then IntKind.i64.wrap (a1_4 + (↑a1_8.length : Int)) else a1_6 else if IntKind.i64.wrap (a1_4 + (↑a1_8.length : Int)) < a1_6 then IntKind.i64.wrap (a1_4 + (↑a1_8.length : Int)) else a1_6) > v3.2.1 then if false = true then if IntKind.i64.wrap (a1_4 + (↑a1_8.length : Int)) > a1_6 then IntKind.i64.wrap (a1_4 + (↑a1_8.length : Int)) else a1_6 else if IntKind.i64.wrap (a1_4 + (↑a1_8.length : Int)) < a1_6 then IntKind.i64.wrap (a1_4 + (↑a1_8.length : Int)) else a1_6 else v3.2.1 else if (if false = true then if IntKind.i64.wrap (a1_4 + (↑a1_8.length : Int)) > a1_6 then IntKind.i64.wrap (a1_4 + (↑a1_8.length : Int)) else a1_6 else if IntKind.i64.wrap (a1_4 + (↑a1_8.length : Int)) < a1_6 then IntKind.i64.wrap (a1_4 + (↑a1_8.length : Int)) else a1_6) < v3.2.1 then if false = true then if IntKind.i64.wrap (a1_4 + (↑a1_8.length : Int)) > a1_6 then IntKind.i64.wrap (a1_4 + (↑a1_8.length : Int)) else a1_6 else if IntKind.i64.wrap (a1_4 + (↑a1_8.length : Int)) < a1_6 then IntKind.i64.wrap (a1_4 + (↑a1_8.length : Int)) else a1_6 else v3.2.1, v3.2.2.1 ++ List.drop (Int.toNat v5.1) (List.take a1_8.length a1_8), v3.2.2.2), [(4, a0_0_0, a1_1, v2.2.2.1, IntKind.i64.wrap (a1_4 + (↑a1_8.length : Int)), 0, 0, true, [])])))
                      (none))
                    (none))))))))
      (Option.bind (g74 a0_0_0 a0_0_1 a0_0_2 a0_0_3 a0_0_4 a0_0_5 a0_0_6 a1_3) fun v6 =>
      Option.bind (g45 a0_0_0 a0_0_1 a0_0_2 a0_0_3 a0_0_4 a0_0_5 a0_0_6 a0_1 a0_2 a0_3 v6.1 v6.2.1 v6.2.2.1 0 v6.2.2.2.2.1 a1_1 []) fun v7 =>
      cond (decide (a1_4 > (↑(List.length v7.2.2.1) : Int)))
        (some ((v7, [(4, a0_0_0, a1_1, v6.2.2.1, 0, 0, 0, false, [])])))
        (Option.bind (g58 v7.2.2.1 a1_4) fun v8 =>
        cond (v8 != a1_5)
          (some ((v7, [(4, a0_0_0, a1_1, v6.2.2.1, 0, 0, 0, false, [])])))
          (cond (decide (IntKind.i64.wrap (a1_4 + (↑a1_8.length : Int)) > 4096))
            (some ((v7, [(4, a0_0_0, a1_1, v6.2.2.1, 0, 0, 0, false, [])])))
            (Option.bind (g75 v7.2.2.1 a1_0 a1_1 a1_2 a1_3 a1_4 a1_5 a1_6 a1_7 a1_8) fun v9 =>
            cond (v9.2)
              (cond (decide (IntKind.i64.wrap (a1_4 + v9.1) < v7.2.1))
                (some ((v7, [(4, a0_0_0, a1_1, v6.2.2.1, 0, 0, 0, false, [])])))
                (cond (v9.2)
                  (cond (decide (0 ≤ IntKind.i64.wrap (a1_4 + v9.1)) && decide (IntKind.i64.wrap (a1_4 + v9.1) ≤ (↑(List.length v7.2.2.1) : Int)) && true)
                    (cond (decide (0 ≤ v9.1) && decide (v9.1 ≤ (↑a1_8.length : Int)) && true)
                      (cond (decide ((IntKind.i64.wrap (a1_4 + v9.1)).toNat - 0 + (List.drop (Int.toNat v9.1) (List.take a1_8.length a1_8)).length ≤ 2147483647))
                        (some (((v7.1, if true = true then if (if false = true then if IntKind.i64.wrap (a1_4 + (↑a1_8.length : Int)) > a1_6 then IntKind.i64.wrap (a1_4 + (↑a1_8.length : Int)) else a1_6 else if IntKind.i64.wrap (a1_4 + (↑a1_8.length : Int)) < a1_6 then IntKind.i64.wrap (a1_4 + (↑a1_8.length : Int)) else a1_6) > v7.2.1 then if false = true then if IntKind.i64.wrap (a1_4 + (↑a1_8.length : Int)) > a1_6 then IntKind.i64.wrap (a1_4 + (↑a1_8.length : Int)) else a1_6 else if IntKind.i64.wrap (a1_4 + (↑a1_8.length : Int)) < a1_6 then IntKind.i64.wrap (a1_4 + (↑a1_8.length : Int)) else a1_6 else v7.2.1 else if (if false = true then if IntKind.i64.wrap (a1_4 + (↑a1_8.length : Int)) > a1_6 then IntKind.i64.wrap (a1_4 + (↑a1_8.length : Int)) else a1_6 else if IntKind.i64.wrap (a1_4 + (↑a1_8.length : Int)) < a1_6 then IntKind.i64.wrap (a1_4 + (↑a1_8.length : Int)) else a1_6) < v7.2.1 then if false = true then if IntKind.i64.wrap (a1_4 + (↑a1_8.length : Int)) > a1_6 then IntKind.i64.wrap (a1_4 + (↑a1_8.length : Int)) else a1_6 else if IntKind.i64.wrap (a1_4 + (↑a1_8.length : Int)) < a1_6 then IntKind.i64.wrap (a1_4 + (↑a1_8.length : Int)) else a1_6 else v7.2.1, List.take ((IntKind.i64.wrap (a1_4 + v9.1)).toNat - 0) (List.drop 0 v7.2.2.1) ++ List.drop (Int.toNat v9.1) (List.take a1_8.length a1_8), v7.2.2.2), [(4, a0_0_0, a1_1, v6.2.2.1, IntKind.i64.wrap (a1_4 + (↑a1_8.length : Int)), 0, 0, true, [])])))
                        (none))
                      (none))
                    (none))
                  (cond (decide (0 ≤ v9.1) && decide (v9.1 ≤ (↑a1_8.length : Int)) && true)
                    (cond (decide (List.length v7.2.2.1 + (List.drop (Int.toNat v9.1) (List.take a1_8.length a1_8)).length ≤ 2147483647))
                      (some (((v7.1, if true = true then if (if false = true then if IntKind.i64.wrap (a1_4 + (↑a1_8.length : Int)) > a1_6 then IntKind.i64.wrap (a1_4 + (↑a1_8.length : Int)) else a1_6 else if IntKind.i64.wrap (a1_4 + (↑a1_8.length : Int)) < a1_6 then IntKind.i64.wrap (a1_4 + (↑a1_8.length : Int)) else a1_6) > v7.2.1 then if false = true then if IntKind.i64.wrap (a1_4 + (↑a1_8.length : Int)) > a1_6 then IntKind.i64.wrap (a1_4 + (↑a1_8.length : Int)) else a1_6 else if IntKind.i64.wrap (a1_4 + (↑a1_8.length : Int)) < a1_6 then IntKind.i64.wrap (a1_4 + (↑a1_8.length : Int)) else a1_6 else v7.2.1 else if (if false = true then if IntKind.i64.wrap (a1_4 + (↑a1_8.length : Int)) > a1_6 then IntKind.i64.wrap (a1_4 + (↑a1_8.length : Int)) else a1_6 else if IntKind.i64.wrap (a1_4 + (↑a1_8.length : Int)) < a1_6 then IntKind.i64.wrap (a1_4 + (↑a1_8.length : Int)) else a1_6) < v7.2.1 then if false = true then if IntKind.i64.wrap (a1_4 + (↑a1_8.length : Int)) > a1_6 then IntKind.i64.wrap (a1_4 + (↑a1_8.length : Int)) else a1_6 else if IntKind.i64.wrap (a1_4 + (↑a1_8.length : Int)) < a1_6 then IntKind.i64.wrap (a1_4 + (↑a1_8.length : Int)) else a1_6 else v7.2.1, v7.2.2.1 ++ List.drop (Int.toNat v9.1) (List.take a1_8.length a1_8), v7.2.2.2), [(4, a0_0_0, a1_1, v6.2.2.1, IntKind.i64.wrap (a1_4 + (↑a1_8.length : Int)), 0, 0, true, [])])))
                      (none))
                    (none))))
              (cond (v9.2)
                (cond (decide (0 ≤ IntKind.i64.wrap (a1_4 + v9.1)) && decide (IntKind.i64.wrap (a1_4 + v9.1) ≤ (↑(List.length v7.2.2.1) : Int)) && true)
                  (cond (decide (0 ≤ v9.1) && decide (v9.1 ≤ (↑a1_8.length : Int)) && true)
                    (cond (decide ((IntKind.i64.wrap (a1_4 + v9.1)).toNat - 0 + (List.drop (Int.toNat v9.1) (List.take a1_8.length a1_8)).length ≤ 2147483647))
                      (some (((v7.1, if true = true then if (if false = true then if IntKind.i64.wrap (a1_4 + (↑a1_8.length : Int)) > a1_6 then IntKind.i64.wrap (a1_4 + (↑a1_8.length : Int)) else a1_6 else if IntKind.i64.wrap (a1_4 + (↑a1_8.length : Int)) < a1_6 then IntKind.i64.wrap (a1_4 + (↑a1_8.length : Int)) else a1_6) > v7.2.1 then if false = true then if IntKind.i64.wrap (a1_4 + (↑a1_8.length : Int)) > a1_6 then IntKind.i64.wrap (a1_4 + (↑a1_8.length : Int)) else a1_6 else if IntKind.i64.wrap (a1_4 + (↑a1_8.length : Int)) < a1_6 then IntKind.i64.wrap (a1_4 + (↑a1_8.length : Int)) else a1_6 else v7.2.1 else if (if false = true then if IntKind.i64.wrap (a1_4 + (↑a1_8.length : Int)) > a1_6 then IntKind.i64.wrap (a1_4 + (↑a1_8.length : Int)) else a1_6 else if IntKind.i64.wrap (a1_4 + (↑a1_8.length : Int)) < a1_6 then IntKind.i64.wrap (a1_4 + (↑a1_8.length : Int)) else a1_6) < v7.2.1 then if false = true then if IntKind.i64.wrap (a1_4 + (↑a1_8.length : Int)) > a1_6 then IntKind.i64.wrap (a1_4 + (↑a1_8.length : Int)) else a1_6 else if IntKind.i64.wrap (a1_4 + (↑a1_8.length : Int)) < a1_6 then IntKind.i64.wrap (a1_4 + (↑a1_8.length : Int)) else a1_6 else v7.2.1, List.take ((IntKind.i64.wrap (a1_4 + v9.1)).toNat - 0) (List.drop 0 v7.2.2.1) ++ List.drop (Int.toNat v9.1) (List.take a1_8.length a1_8), v7.2.2.2), [(4, a0_0_0, a1_1, v6.2.2.1, IntKind.i64.wrap (a1_4 + (↑a1_8.length : Int)), 0, 0, true, [])])))
                      (none))
                    (none))
                  (none))
                (cond (decide (0 ≤ v9.1) && decide (v9.1 ≤ (↑a1_8.length : Int)) && true)
                  (cond (decide (List.length v7.2.2.1 + (List.drop (Int.toNat v9.1) (List.take a1_8.length a1_8)).length ≤ 2147483647))
                    (some (((v7.1, if true = true then if (if false = true then if IntKind.i64.wrap (a1_4 + (↑a1_8.length : Int)) > a1_6 then IntKind.i64.wrap (a1_4 + (↑a1_8.length : Int)) else a1_6 else if IntKind.i64.wrap (a1_4 + (↑a1_8.length : Int)) < a1_6 then IntKind.i64.wrap (a1_4 + (↑a1_8.length : Int)) else a1_6) > v7.2.1 then if false = true then if IntKind.i64.wrap (a1_4 + (↑a1_8.length : Int)) > a1_6 then IntKind.i64.wrap (a1_4 + (↑a1_8.length : Int)) else a1_6 else if IntKind.i64.wrap (a1_4 + (↑a1_8.length : Int)) < a1_6 then IntKind.i64.wrap (a1_4 + (↑a1_8.length : Int)) else a1_6 else v7.2.1 else if (if false = true then if IntKind.i64.wrap (a1_4 + (↑a1_8.length : Int)) > a1_6 then IntKind.i64.wrap (a1_4 + (↑a1_8.length : Int)) else a1_6 else if IntKind.i64.wrap (a1_4 + (↑a1_8.length : Int)) < a1_6 then IntKind.i64.wrap (a1_4 + (↑a1_8.length : Int)) else a1_6) < v7.2.1 then if false = true then if IntKind.i64.wrap (a1_4 + (↑a1_8.length : Int)) > a1_6 then IntKind.i64.wrap (a1_4 + (↑a1_8.length : Int)) else a1_6 else if IntKind.i64.wrap (a1_4 + (↑a1_8.length : Int)) < a1_6 then IntKind.i64.wrap (a1_4 + (↑a1_8.length : Int)) else a1_6 else v7.2.1, v7.2.2.1 ++ List.drop (Int.toNat v9.1) (List.take a1_8.length a1_8), v7.2.2.2), [(4, a0_0_0, a1_1, v6.2.2.1, IntKind.i64.wrap (a1_4 + (↑a1_8.length : Int)), 0, 0, true, [])])))
                    (none))
                  (none))))))))
noncomputable def i48 : FI := ⟨ps48, .tup (.pr (.ty QS1) (.ty QS4)), fun (((a0_0_0, a0_0_1, a0_0_2, a0_0_3, a0_0_4, a0_0_5, a0_0_6), a0_1, a0_2, a0_3), (a1_0, a1_1, a1_2, a1_3, a1_4, a1_5, a1_6, a1_7, a1_8)) => g48 a0_0_0 a0_0_1 a0_0_2 a0_0_3 a0_0_4 a0_0_5 a0_0_6 a0_1 a0_2 a0_3 a1_0 a1_1 a1_2 a1_3 a1_4 a1_5 a1_6 a1_7 a1_8⟩
theorem e48 : (fun a => i48.G a) = fnEval T Y env48 an i48.ps i48.rs true Tryz.f48.results.toList lv48 c48 := by kernel_rfl
theorem lo48 : loopsOf c48 = [] := by kernel_rfl
theorem ll48 : LoopsOk T Y env48 an lv48 (finO T true ps48 (.tup (.pr (.ty QS1) (.ty QS4))) Tryz.f48.results.toList) c48 := loopsOk_of (by rw [lo48]; exact trivial)
theorem k48 : FnOk Tryz.prog 48 i48 :=
  fn_ok (T := T) (Y := Y) (an := an) (env := env48) (fr := true) (lenv := lv48) mixed tok.1 tok.2 (envCons k32 (envCons k74 (envCons k45 (envCons k58 (envCons k75 (envNil)))))) (fn := Tryz.f48) (c := c48) (by kernel_rfl) (by kernel_rfl) (by kernel_rfl) ll48 (fun a => congrFun e48 a)
/-! ### broker/replica.Timeout -/
noncomputable def c8 : Code := Tryz.f8.body.getD .skip
noncomputable def env8 : Env := mkEnv [(31, i31), (32, i32), (34, i34), (33, i33), (35, i35)]
abbrev ps8 : List PSh := [.d QS1]
abbrev D8 : Type := pairD (.tup (.pr (.ty QS1) (.ty QS4))) (osOf ps8)
noncomputable def lv8 : Nat → Option (LI D8) := fun _ => none
noncomputable def g8 (a0_0_0 : Int) (a0_0_1 : Int) (a0_0_2 : Int) (a0_0_3 : Int) (a0_0_4 : Int) (a0_0_5 : Int) (a0_0_6 : List Int) (a0_1 : Int) (a0_2 : List (Int × List UInt8)) (a0_3 : List Int) : Option (((Int × Int × Int × Int × Int × Int × List Int) × Int × List (Int × List UInt8) × List Int) × List QT2) :=
  Option.bind (g31 a0_0_0 a0_0_1 a0_0_2 a0_0_3 a0_0_4 a0_0_5 a0_0_6 a0_1 a0_2 a0_3) fun v1 =>
  Option.bind (g32 a0_0_0 a0_0_1 a0_0_2 a0_0_3 a0_0_4 a0_0_5 a0_0_6 a0_1 a0_2 a0_3) fun v2 =>
  cond (v2)
    (some ((v1, [])))
    (Option.bind (g34 a0_2) fun v3 =>
    Option.bind (g33 a0_0_0 a0_0_1 a0_0_2 a0_0_3 a0_0_4 a0_0_5 a0_0_6 (↑a0_2.length : Int) v3) fun v4 =>
    Option.bind (g32 v4.1.1 v4.1.2.1 v4.1.2.2.1 v4.1.2.2.2.1 v4.1.2.2.2.2.1 v4.1.2.2.2.2.2.1 v4.1.2.2.2.2.2.2 v1.2.1 v1.2.2.1 v1.2.2.2) fun v5 =>
    cond (v5)
      (Option.bind (g35 v4.1.1 v4.1.2.1 v4.1.2.2.1 v4.1.2.2.2.1 v4.1.2.2.2.2.1 v4.1.2.2.2.2.2.1 v4.1.2.2.2.2.2.2 v1.2.1 v1.2.2.1 v1.2.2.2) fun v6 =>
      some ((v6, v4.2)))
      (some (((v4.1, v1.2), v4.2))))
noncomputable def i8 : FI := ⟨ps8, .tup (.pr (.ty QS1) (.ty QS4)), fun ((a0_0_0, a0_0_1, a0_0_2, a0_0_3, a0_0_4, a0_0_5, a0_0_6), a0_1, a0_2, a0_3) => g8 a0_0_0 a0_0_1 a0_0_2 a0_0_3 a0_0_4 a0_0_5 a0_0_6 a0_1 a0_2 a0_3⟩
theorem e8 : (fun a => i8.G a) = fnEval T Y env8 an i8.ps i8.rs true Tryz.f8.results.toList lv8 c8 := by kernel_rfl
theorem lo8 : loopsOf c8 = [] := by kernel_rfl
theorem ll8 : LoopsOk T Y env8 an lv8 (finO T true ps8 (.tup (.pr (.ty QS1) (.ty QS4))) Tryz.f8.results.toList) c8 := loopsOk_of (by rw [lo8]; exact trivial)
theorem k8 : FnOk Tryz.prog 8 i8 :=
  fn_ok (T := T) (Y := Y) (an := an) (env := env8) (fr := true) (lenv := lv8) mixed tok.1 tok.2 (envCons k31 (envCons k32 (envCons k34 (envCons k33 (envCons k35 (envNil)))))) (fn := Tryz.f8) (c := c8) (by kernel_rfl) (by kernel_rfl) (by kernel_rfl) ll8 (fun a => congrFun e8 a)
/-! ### broker/replica.Beat -/
noncomputable def c18 : Code := Tryz.f18.body.getD .skip
noncomputable def env18 : Env := mkEnv [(32, i32), (58, i58), (56, i56000)]
abbrev ps18 : List PSh := [.d QS1]
abbrev D18 : Type := pairD (.ty QS4) (osOf ps18)
def ns18_0 : NS := { slots := [(1, .pt 1 []), (3, .hw 55), (12, .ty (.i .i64)), (13, .ty (.i .i64))], roots := [(55, .ar 9 QS5), (1, .ty QS1)], ad := [{ t := 3, path := [], g := 55, d := 9, τ := (QS5 : Ty) }] }
def ex18_0 : List (Nat × NS) := [(0, { slots := [(3, .hw 55)], roots := [(55, .ar 9 QS5)] })]
noncomputable def st18_0 (ih : ((Int × Int) × ((List QT2) × (Int × Int × Int × Int × Int × Int × List Int) × Int × List (Int × List UInt8) × List Int)) → Option (((Unit) × (List QT2)) ⊕ ((List QT2)))) : ((Int × Int) × ((List QT2) × (Int × Int × Int × Int × Int × Int × List Int) × Int × List (Int × List UInt8) × List Int)) → Option (((Unit) × (List QT2)) ⊕ ((List QT2))) := fun ((t12, t13), (r55, ((r1_0_0, r1_0_1, r1_0_2, r1_0_3, r1_0_4, r1_0_5, r1_0_6), r1_1, r1_2, r1_3))) =>
  cond (decide (t13 < t12))
    (cond (t13 == r1_0_0)
      (ih ((t12, IntKind.i64.wrap (t13 + 1)), r55, (r1_0_0, r1_0_1, r1_0_2, r1_0_3, r1_0_4, r1_0_5, r1_0_6), r1_1, r1_2, r1_3))
      (cond (decide (0 ≤ t13) && decide (t13 < (↑r1_3.length : Int)))
        (Option.bind (g58 r1_2 (r1_3.getD t13.toNat 0)) fun v1 =>
        cond (decide (0 ≤ if false = true then if (↑r1_2.length : Int) > IntKind.i64.wrap (r1_3.getD t13.toNat 0 + 32) then (↑r1_2.length : Int) else IntKind.i64.wrap (r1_3.getD t13.toNat 0 + 32) else if (↑r1_2.length : Int) < IntKind.i64.wrap (r1_3.getD t13.toNat 0 + 32) then (↑r1_2.length : Int) else IntKind.i64.wrap (r1_3.getD t13.toNat 0 + 32)) && decide ((if false = true then if (↑r1_2.length : Int) > IntKind.i64.wrap (r1_3.getD t13.toNat 0 + 32) then (↑r1_2.length : Int) else IntKind.i64.wrap (r1_3.getD t13.toNat 0 + 32) else if (↑r1_2.length : Int) < IntKind.i64.wrap (r1_3.getD t13.toNat 0 + 32) then (↑r1_2.length : Int) else IntKind.i64.wrap (r1_3.getD t13.toNat 0 + 32)) ≤ (↑r1_2.length : Int)) && (decide (0 ≤ r1_3.getD t13.toNat 0) && decide (r1_3.getD t13.toNat 0 ≤ if false = true then if (↑r1_2.length : Int) > IntKind.i64.wrap (r1_3.getD t13.toNat 0 + 32) then (↑r1_2.length : Int) else IntKind.i64.wrap (r1_3.getD t13.toNat 0 + 32) else if (↑r1_2.length : Int) < IntKind.i64.wrap (r1_3.getD t13.toNat 0 + 32) then (↑r1_2.length : Int) else IntKind.i64.wrap (r1_3.getD t13.toNat 0 + 32))) && true)
          (Option.bind (g56000 (List.drop (r1_3.getD t13.toNat 0).toNat (List.take (if false = true then if (↑r1_2.length : Int) > IntKind.i64.wrap (r1_3.getD t13.toNat 0 + 32) then (↑r1_2.length : Int) else IntKind.i64.wrap (r1_3.getD t13.toNat 0 + 32) else if (↑r1_2.length : Int) < IntKind.i64.wrap (r1_3.getD t13.toNat 0 + 32) then (↑r1_2.length : Int) else IntKind.i64.wrap (r1_3.getD t13.toNat 0 + 32)).toNat r1_2))) fun v2 =>
          cond (decide (r55.length + 1 ≤ 2147483647))
            (ih ((t12, IntKind.i64.wrap (t13 + 1)), r55 ++ [(3, r1_0_0, t13, r1_0_2, r1_3.getD t13.toNat 0, v1, r1_1, false, v2)], (r1_0_0, r1_0_1, r1_0_2, r1_0_3, r1_0_4, r1_0_5, r1_0_6), r1_1, r1_2, r1_3))
            (none))
          (none))
        (none)))
    (some (Sum.inl ((), r55)))
noncomputable def h18_0 : ((Int × Int) × ((List QT2) × (Int × Int × Int × Int × Int × Int × List Int) × Int × List (Int × List UInt8) × List Int)) → Option (((Unit) × (List QT2)) ⊕ ((List QT2))) := loopN st18_0 fuel
noncomputable def l18_0 : LI D18 := ⟨ns18_0, ex18_0, h18_0⟩
noncomputable def lv18 : Nat → Option (LI D18) := fun q => if q = 5 then some l18_0 else (fun _ => none) q
noncomputable def g18 (a0_0_0 : Int) (a0_0_1 : Int) (a0_0_2 : Int) (a0_0_3 : Int) (a0_0_4 : Int) (a0_0_5 : Int) (a0_0_6 : List Int) (a0_1 : Int) (a0_2 : List (Int × List UInt8)) (a0_3 : List Int) : Option (List QT2) :=
  Option.bind (g32 a0_0_0 a0_0_1 a0_0_2 a0_0_3 a0_0_4 a0_0_5 a0_0_6 a0_1 a0_2 a0_3) fun v1 =>
  cond (!v1)
    (some ([]))
    (Option.bind (h18_0 ((a0_0_1, 0), [], (a0_0_0, a0_0_1, a0_0_2, a0_0_3, a0_0_4, a0_0_5, a0_0_6), a0_1, a0_2, a0_3)) fun v2 =>
    match v2 with
    | .inl x3 =>
      some (x3.2)
    | .inr x3 =>
      some (x3))
noncomputable def i18 : FI := ⟨ps18, .ty QS4, fun ((a0_0_0, a0_0_1, a0_0_2, a0_0_3, a0_0_4, a0_0_5, a0_0_6), a0_1, a0_2, a0_3) => g18 a0_0_0 a0_0_1 a0_0_2 a0_0_3 a0_0_4 a0_0_5 a0_0_6 a0_1 a0_2 a0_3⟩
theorem s18_0 : st18_0 = stepEval T Y env18 an lv18 (finO T true ps18 (.ty QS4) Tryz.f18.results.toList) (loopAt c18 0) ns18_0 ex18_0 := by kernel_rfl
theorem e18 : (fun a => i18.G a) = fnEval T Y env18 an i18.ps i18.rs true Tryz.f18.results.toList lv18 c18 := by kernel_rfl
theorem lo18 : loopsOf c18 = [loopAt c18 0] := by kernel_rfl
theorem ll18 : LoopsOk T Y env18 an lv18 (finO T true ps18 (.ty QS4) Tryz.f18.results.toList) c18 := loopsOk_of (by rw [lo18]; exact ⟨loop1 (li := l18_0) (by kernel_rfl) (by kernel_rfl) s18_0, trivial⟩)
theorem k18 : FnOk Tryz.prog 18 i18 :=
  fn_ok (T := T) (Y := Y) (an := an) (env := env18) (fr := true) (lenv := lv18) mixed tok.1 tok.2 (envCons k32 (envCons k58 (envCons k56000 (envNil)))) (fn := Tryz.f18) (c := c18) (by kernel_rfl) (by kernel_rfl) (by kernel_rfl) ll18 (fun a => congrFun e18 a)
/-! ### broker/replica.Receive -/
noncomputable def c13 : Code := Tryz.f13.body.getD .skip
noncomputable def env13 : Env := mkEnv [(31, i31), (43, i43), (34, i34), (44, i44), (45, i45), (46, i46), (32, i32), (35, i35), (18, i18), (47, i47), (48, i48), (49, i49)]
abbrev ps13 : List PSh := [.d QS1, .d QS5]
abbrev D13 : Type := pairD (.tup (.pr (.ty QS1) (.ty QS4))) (osOf ps13)
noncomputable def lv13 : Nat → Option (LI D13) := fun _ => none
noncomputable def g13 (a0_0_0 : Int) (a0_0_1 : Int) (a0_0_2 : Int) (a0_0_3 : Int) (a0_0_4 : Int) (a0_0_5 : Int) (a0_0_6 : List Int) (a0_1 : Int) (a0_2 : List (Int × List UInt8)) (a0_3 : List Int) (a1_0 : Int) (a1_1 : Int) (a1_2 : Int) (a1_3 : Int) (a1_4 : Int) (a1_5 : Int) (a1_6 : Int) (a1_7 : Bool) (a1_8 : List (Int × List UInt8)) : Option (((Int × Int × Int × Int × Int × Int × List Int) × Int × List (Int × List UInt8) × List Int) × List QT2) :=
  Option.bind (g31 a0_0_0 a0_0_1 a0_0_2 a0_0_3 a0_0_4 a0_0_5 a0_0_6 a0_1 a0_2 a0_3) fun v1 =>
  Option.bind (g43 a0_0_0 a0_0_1 a0_0_2 a0_0_3 a0_0_4 a0_0_5 a0_0_6 a1_0 a1_1 a1_2 a1_3 a1_4 a1_5 a1_6 a1_7 a1_8) fun v2 =>
  cond (!v2)
    (some ((v1, [])))
    (cond (a1_0 == 1)
      (Option.bind (g34 a0_2) fun v3 =>
      Option.bind (g44 a0_0_0 a0_0_1 a0_0_2 a0_0_3 a0_0_4 a0_0_5 a0_0_6 a1_0 a1_1 a1_2 a1_3 a1_4 a1_5 a1_6 a1_7 a1_8 (↑a0_2.length : Int) v3) fun v4 =>
      Option.bind (g45 v1.1.1 v1.1.2.1 v1.1.2.2.1 v1.1.2.2.2.1 v1.1.2.2.2.2.1 v1.1.2.2.2.2.2.1 v1.1.2.2.2.2.2.2 v1.2.1 v1.2.2.1 v1.2.2.2 v4.1.1 v4.1.2.1 v4.1.2.2.1 v4.1.2.2.2.1 v4.1.2.2.2.2.1 v4.1.2.2.2.2.2.1 v4.1.2.2.2.2.2.2) fun v5 =>
      some ((v5, [v4.2])))
      (cond (a1_0 == 2)
        (Option.bind (g46 a0_0_0 a0_0_1 a0_0_2 a0_0_3 a0_0_4 a0_0_5 a0_0_6 a1_0 a1_1 a1_2 a1_3 a1_4 a1_5 a1_6 a1_7 a1_8) fun v6 =>
        Option.bind (g45 v1.1.1 v1.1.2.1 v1.1.2.2.1 v1.1.2.2.2.1 v1.1.2.2.2.2.1 v1.1.2.2.2.2.2.1 v1.1.2.2.2.2.2.2 v1.2.1 v1.2.2.1 v1.2.2.2 v6.1 v6.2.1 v6.2.2.1 v6.2.2.2.1 v6.2.2.2.2.1 v6.2.2.2.2.2.1 v6.2.2.2.2.2.2) fun v7 =>
        Option.bind (g32 a0_0_0 a0_0_1 a0_0_2 a0_0_3 a0_0_4 a0_0_5 a0_0_6 a0_1 a0_2 a0_3) fun v8 =>
        cond (!v8)
          (Option.bind (g32 v7.1.1 v7.1.2.1 v7.1.2.2.1 v7.1.2.2.2.1 v7.1.2.2.2.2.1 v7.1.2.2.2.2.2.1 v7.1.2.2.2.2.2.2 v7.2.1 v7.2.2.1 v7.2.2.2) fun v9 =>
          cond (v9)
            (Option.bind (g35 v7.1.1 v7.1.2.1 v7.1.2.2.1 v7.1.2.2.2.1 v7.1.2.2.2.2.1 v7.1.2.2.2.2.2.1 v7.1.2.2.2.2.2.2 v7.2.1 v7.2.2.1 v7.2.2.2) fun v10 =>
            Option.bind (g18 v10.1.1 v10.1.2.1 v10.1.2.2.1 v10.1.2.2.2.1 v10.1.2.2.2.2.1 v10.1.2.2.2.2.2.1 v10.1.2.2.2.2.2.2 v10.2.1 v10.2.2.1 v10.2.2.2) fun v11 =>
            some ((v10, v11)))
            (some ((v7, []))))
          (some ((v7, []))))
        (cond (a1_0 == 3)
          (Option.bind (g47 a1_0 a1_1 a1_2 a1_3 a1_4 a1_5 a1_6 a1_7 a1_8) fun v12 =>
          cond (v12)
            (Option.bind (g48 v1.1.1 v1.1.2.1 v1.1.2.2.1 v1.1.2.2.2.1 v1.1.2.2.2.2.1 v1.1.2.2.2.2.2.1 v1.1.2.2.2.2.2.2 v1.2.1 v1.2.2.1 v1.2.2.2 a1_0 a1_1 a1_2 a1_3 a1_4 a1_5 a1_6 a1_7 a1_8) fun v13 =>
            some (v13))
            (some ((v1, []))))
          (cond (a1_0 == 4)
            (Option.bind (g49 v1.1.1 v1.1.2.1 v1.1.2.2.1 v1.1.2.2.2.1 v1.1.2.2.2.2.1 v1.1.2.2.2.2.2.1 v1.1.2.2.2.2.2.2 v1.2.1 v1.2.2.1 v1.2.2.2 a1_0 a1_1 a1_2 a1_3 a1_4 a1_5 a1_6 a1_7 a1_8) fun v14 =>
            some ((v14, [])))
            (some ((v1, [])))))))
noncomputable def i13 : FI := ⟨ps13, .tup (.pr (.ty QS1) (.ty QS4)), fun (((a0_0_0, a0_0_1, a0_0_2, a0_0_3, a0_0_4, a0_0_5, a0_0_6), a0_1, a0_2, a0_3), (a1_0, a1_1, a1_2, a1_3, a1_4, a1_5, a1_6, a1_7, a1_8)) => g13 a0_0_0 a0_0_1 a0_0_2 a0_0_3 a0_0_4 a0_0_5 a0_0_6 a0_1 a0_2 a0_3 a1_0 a1_1 a1_2 a1_3 a1_4 a1_5 a1_6 a1_7 a1_8⟩
theorem e13 : (fun a => i13.G a) = fnEval T Y env13 (zapA an [(12, 6, [])]) i13.ps i13.rs true Tryz.f13.results.toList lv13 c13 := by kernel_rfl
theorem lo13 : loopsOf c13 = [] := by kernel_rfl
theorem ll13 : LoopsOk T Y env13 (zapA an [(12, 6, [])]) lv13 (finO T true ps13 (.tup (.pr (.ty QS1) (.ty QS4))) Tryz.f13.results.toList) c13 := loopsOk_of (by rw [lo13]; exact trivial)
theorem k13 : FnOk Tryz.prog 13 i13 :=
  fn_ok (T := T) (Y := Y) (an := zapA an [(12, 6, [])]) (env := env13) (fr := true) (lenv := lv13) mixed tok.1 tok.2 (envCons k31 (envCons k43 (envCons k34 (envCons k44 (envCons k45 (envCons k46 (envCons k32 (envCons k35 (envCons k18 (envCons k47 (envCons k48 (envCons k49 (envNil))))))))))))) (fn := Tryz.f13) (c := c13) (by kernel_rfl) (by kernel_rfl) (by kernel_rfl) ll13 (fun a => congrFun e13 a)
/-! ### broker/replica.Propose -/
noncomputable def c10 : Code := Tryz.f10.body.getD .skip
noncomputable def env10 : Env := mkEnv [(32, i32), (31, i31), (39, i39)]
abbrev ps10 : List PSh := [.d QS1, .d .s]
abbrev D10 : Type := pairD (.tup (.pr (.ty QS1) (.pr (.ty (.i .i64)) (.ty (.i .i64))))) (osOf ps10)
noncomputable def lv10 : Nat → Option (LI D10) := fun _ => none
noncomputable def g10 (a0_0_0 : Int) (a0_0_1 : Int) (a0_0_2 : Int) (a0_0_3 : Int) (a0_0_4 : Int) (a0_0_5 : Int) (a0_0_6 : List Int) (a0_1 : Int) (a0_2 : List (Int × List UInt8)) (a0_3 : List Int) (a1 : List UInt8) : Option (((Int × Int × Int × Int × Int × Int × List Int) × Int × List (Int × List UInt8) × List Int) × Int × Int) :=
  Option.bind (g32 a0_0_0 a0_0_1 a0_0_2 a0_0_3 a0_0_4 a0_0_5 a0_0_6 a0_1 a0_2 a0_3) fun v1 =>
  cond (!v1)
    (some ((((0, 0, 0, 0, 0, 0, []), 0, [], []), 0, 24)))
    (cond (decide ((↑a1.length : Int) > 65536))
      (some ((((0, 0, 0, 0, 0, 0, []), 0, [], []), 0, 5)))
      (cond (decide ((↑a0_2.length : Int) ≥ 4096))
        (some ((((0, 0, 0, 0, 0, 0, []), 0, [], []), 0, 6)))
        (Option.bind (g31 a0_0_0 a0_0_1 a0_0_2 a0_0_3 a0_0_4 a0_0_5 a0_0_6 a0_1 a0_2 a0_3) fun v2 =>
        cond (decide (List.length v2.2.2.1 + 1 ≤ 2147483647))
          (cond (decide (0 ≤ a0_0_0) && decide (a0_0_0 < (↑(List.length v2.2.2.2) : Int)))
            (cond (decide (a0_0_0.toNat < List.length v2.2.2.2))
              (Option.bind (g39 v2.1.1 v2.1.2.1 v2.1.2.2.1 v2.1.2.2.2.1 v2.1.2.2.2.2.1 v2.1.2.2.2.2.2.1 v2.1.2.2.2.2.2.2 v2.2.1 (v2.2.2.1 ++ [(a0_0_2, a1)]) (List.set v2.2.2.2 a0_0_0.toNat (↑(v2.2.2.1 ++ [(a0_0_2, a1)]).length : Int))) fun v3 =>
              some ((v3, (↑(v2.2.2.1 ++ [(a0_0_2, a1)]).length : Int), 0)))
              (none))
            (none))
          (none))))
noncomputable def i10 : FI := ⟨ps10, .tup (.pr (.ty QS1) (.pr (.ty (.i .i64)) (.ty (.i .i64)))), fun (((a0_0_0, a0_0_1, a0_0_2, a0_0_3, a0_0_4, a0_0_5, a0_0_6), a0_1, a0_2, a0_3), a1) => g10 a0_0_0 a0_0_1 a0_0_2 a0_0_3 a0_0_4 a0_0_5 a0_0_6 a0_1 a0_2 a0_3 a1⟩
theorem e10 : (fun a => i10.G a) = fnEval T Y env10 (zapA an [(10, 7, [])]) i10.ps i10.rs true Tryz.f10.results.toList lv10 c10 := by kernel_rfl
theorem lo10 : loopsOf c10 = [] := by kernel_rfl
theorem ll10 : LoopsOk T Y env10 (zapA an [(10, 7, [])]) lv10 (finO T true ps10 (.tup (.pr (.ty QS1) (.pr (.ty (.i .i64)) (.ty (.i .i64))))) Tryz.f10.results.toList) c10 := loopsOk_of (by rw [lo10]; exact trivial)
theorem k10 : FnOk Tryz.prog 10 i10 :=
  fn_ok (T := T) (Y := Y) (an := zapA an [(10, 7, [])]) (env := env10) (fr := true) (lenv := lv10) mixed tok.1 tok.2 (envCons k32 (envCons k31 (envCons k39 (envNil)))) (fn := Tryz.f10) (c := c10) (by kernel_rfl) (by kernel_rfl) (by kernel_rfl) ll10 (fun a => congrFun e10 a)
/-! ### broker/replica.Restart -/
noncomputable def c15 : Code := Tryz.f15.body.getD .skip
noncomputable def env15 : Env := mkEnv [(56, i56)]
abbrev ps15 : List PSh := [.d QS1]
abbrev D15 : Type := pairD (.ty QS1) (osOf ps15)
noncomputable def lv15 : Nat → Option (LI D15) := fun _ => none
noncomputable def g15 (a0_0_0 : Int) (a0_0_1 : Int) (a0_0_2 : Int) (a0_0_3 : Int) (a0_0_4 : Int) (a0_0_5 : Int) (a0_0_6 : List Int) (a0_1 : Int) (a0_2 : List (Int × List UInt8)) (a0_3 : List Int) : Option ((Int × Int × Int × Int × Int × Int × List Int) × Int × List (Int × List UInt8) × List Int) :=
  Option.bind (g56 a0_2) fun v1 =>
  some (((a0_0_0, a0_0_1, a0_0_2, 0, a0_0_4, -1, []), 0, v1, []))
noncomputable def i15 : FI := ⟨ps15, .ty QS1, fun ((a0_0_0, a0_0_1, a0_0_2, a0_0_3, a0_0_4, a0_0_5, a0_0_6), a0_1, a0_2, a0_3) => g15 a0_0_0 a0_0_1 a0_0_2 a0_0_3 a0_0_4 a0_0_5 a0_0_6 a0_1 a0_2 a0_3⟩
theorem e15 : (fun a => i15.G a) = fnEval T Y env15 an i15.ps i15.rs true Tryz.f15.results.toList lv15 c15 := by kernel_rfl
theorem lo15 : loopsOf c15 = [] := by kernel_rfl
theorem ll15 : LoopsOk T Y env15 an lv15 (finO T true ps15 (.ty QS1) Tryz.f15.results.toList) c15 := loopsOk_of (by rw [lo15]; exact trivial)
theorem k15 : FnOk Tryz.prog 15 i15 :=
  fn_ok (T := T) (Y := Y) (an := an) (env := env15) (fr := true) (lenv := lv15) mixed tok.1 tok.2 (envCons k56 (envNil)) (fn := Tryz.f15) (c := c15) (by kernel_rfl) (by kernel_rfl) (by kernel_rfl) ll15 (fun a => congrFun e15 a)
/-! ### broker/replica.Committed -/
noncomputable def c21 : Code := Tryz.f21.body.getD .skip
noncomputable def env21 : Env := mkEnv []
abbrev ps21 : List PSh := [.d QS1]
abbrev D21 : Type := pairD (.ty (.sl .s)) (osOf ps21)
def ns21_0 : NS := { slots := [(3, .hw 20), (10, .ty (.sl (.st (.pr (.i .i64) .s)))), (11, .ty (.i .i64)), (12, .ty (.i .i64))], roots := [(20, .ar 1 .s)], ad := [{ t := 3, path := [], g := 20, d := 1, τ := (.s : Ty) }] }
def ex21_0 : List (Nat × NS) := [(0, { slots := [(3, .hw 20)], roots := [(20, .ar 1 .s)] })]
noncomputable def st21_0 (ih : (((List (Int × List UInt8)) × Int × Int) × (List (List UInt8))) → Option (((Unit) × (List (List UInt8))) ⊕ (List (List UInt8)))) : (((List (Int × List UInt8)) × Int × Int) × (List (List UInt8))) → Option (((Unit) × (List (List UInt8))) ⊕ (List (List UInt8))) := fun ((t10, t11, t12), r20) =>
  cond (decide (t12 < t11))
    (cond (decide (0 ≤ t12) && decide (t12 < (↑t10.length : Int)))
      (cond (decide (r20.length + 1 ≤ 2147483647))
        (ih ((t10, t11, IntKind.i64.wrap (t12 + 1)), r20 ++ [(t10.getD t12.toNat (0, [])).2]))
        (none))
      (none))
    (some (Sum.inl ((), r20)))
noncomputable def h21_0 : (((List (Int × List UInt8)) × Int × Int) × (List (List UInt8))) → Option (((Unit) × (List (List UInt8))) ⊕ (List (List UInt8))) := loopN st21_0 fuel
noncomputable def l21_0 : LI D21 := ⟨ns21_0, ex21_0, h21_0⟩
noncomputable def lv21 : Nat → Option (LI D21) := fun q => if q = 3 then some l21_0 else (fun _ => none) q
noncomputable def g21 (a0_0_0 : Int) (a0_0_1 : Int) (a0_0_2 : Int) (a0_0_3 : Int) (a0_0_4 : Int) (a0_0_5 : Int) (a0_0_6 : List Int) (a0_1 : Int) (a0_2 : List (Int × List UInt8)) (a0_3 : List Int) : Option (List (List UInt8)) :=
  cond (decide (0 ≤ a0_1) && decide (a0_1 ≤ (↑a0_2.length : Int)) && true)
    (Option.bind (h21_0 ((List.drop 0 (List.take a0_1.toNat a0_2), (↑(List.drop 0 (List.take a0_1.toNat a0_2)).length : Int), 0), [])) fun v1 =>
    match v1 with
    | .inl x2 =>
      some (x2.2)
    | .inr x2 =>
      some (x2))
    (none)
noncomputable def i21 : FI := ⟨ps21, .ty (.sl .s), fun ((a0_0_0, a0_0_1, a0_0_2, a0_0_3, a0_0_4, a0_0_5, a0_0_6), a0_1, a0_2, a0_3) => g21 a0_0_0 a0_0_1 a0_0_2 a0_0_3 a0_0_4 a0_0_5 a0_0_6 a0_1 a0_2 a0_3⟩
theorem s21_0 : st21_0 = stepEval T Y env21 an lv21 (finO T true ps21 (.ty (.sl .s)) Tryz.f21.results.toList) (loopAt c21 0) ns21_0 ex21_0 := by kernel_rfl
theorem e21 : (fun a => i21.G a) = fnEval T Y env21 an i21.ps i21.rs true Tryz.f21.results.toList lv21 c21 := by kernel_rfl
theorem lo21 : loopsOf c21 = [loopAt c21 0] := by kernel_rfl
theorem ll21 : LoopsOk T Y env21 an lv21 (finO T true ps21 (.ty (.sl .s)) Tryz.f21.results.toList) c21 := loopsOk_of (by rw [lo21]; exact ⟨loop1 (li := l21_0) (by kernel_rfl) (by kernel_rfl) s21_0, trivial⟩)
theorem k21 : FnOk Tryz.prog 21 i21 :=
  fn_ok (T := T) (Y := Y) (an := an) (env := env21) (fr := true) (lenv := lv21) mixed tok.1 tok.2 (envNil) (fn := Tryz.f21) (c := c21) (by kernel_rfl) (by kernel_rfl) (by kernel_rfl) ll21 (fun a => congrFun e21 a)
/-! ### broker/brokerlaw41.trio -/
noncomputable def c28 : Code := Tryz.f28.body.getD .skip
noncomputable def env28 : Env := mkEnv [(61, i61), (8, i8), (13, i13)]
abbrev ps28 : List PSh := []
abbrev D28 : Type := pairD (.tup (.pr (.ty (.sl QS1)) (.ty .b))) (osOf ps28)
def ns28_0 : NS := { slots := [(2, .hw 25), (12, .ty (.i .i64))], roots := [(25, .ar 10 QS1)], ad := [{ t := 2, path := [], g := 25, d := 10, τ := (QS1 : Ty) }] }
def ex28_0 : List (Nat × NS) := [(0, { slots := [(2, .hw 25)], roots := [(25, .ar 10 QS1)] })]
noncomputable def st28_0 (ih : ((Int) × (List ((Int × Int × Int × Int × Int × Int × List Int) × Int × List (Int × List UInt8) × List Int))) → Option (((Unit) × (List ((Int × Int × Int × Int × Int × Int × List Int) × Int × List (Int × List UInt8) × List Int))) ⊕ (((List ((Int × Int × Int × Int × Int × Int × List Int) × Int × List (Int × List UInt8) × List Int)) × Bool)))) : ((Int) × (List ((Int × Int × Int × Int × Int × Int × List Int) × Int × List (Int × List UInt8) × List Int))) → Option (((Unit) × (List ((Int × Int × Int × Int × Int × Int × List Int) × Int × List (Int × List UInt8) × List Int))) ⊕ (((List ((Int × Int × Int × Int × Int × Int × List Int) × Int × List (Int × List UInt8) × List Int)) × Bool))) := fun (t12, r25) =>
  cond (decide (t12 < 3))
    (Option.bind (g61 t12 3) fun v1 =>
    cond (v1.2 != 0)
      (some (Sum.inr ([], false)))
      (cond (decide (r25.length + 1 ≤ 2147483647))
        (ih (IntKind.i64.wrap (t12 + 1), r25 ++ [v1.1]))
        (none)))
    (some (Sum.inl ((), r25)))
noncomputable def h28_0 : ((Int) × (List ((Int × Int × Int × Int × Int × Int × List Int) × Int × List (Int × List UInt8) × List Int))) → Option (((Unit) × (List ((Int × Int × Int × Int × Int × Int × List Int) × Int × List (Int × List UInt8) × List Int))) ⊕ (((List ((Int × Int × Int × Int × Int × Int × List Int) × Int × List (Int × List UInt8) × List Int)) × Bool))) := loopN st28_0 fuel
noncomputable def l28_0 : LI D28 := ⟨ns28_0, ex28_0, h28_0⟩
noncomputable def lv28 : Nat → Option (LI D28) := fun q => if q = 3 then some l28_0 else (fun _ => none) q
noncomputable def g28 : Option ((List ((Int × Int × Int × Int × Int × Int × List Int) × Int × List (Int × List UInt8) × List Int)) × Bool) :=
  Option.bind (h28_0 (0, [])) fun v1 =>
  match v1 with
  | .inl x2 =>
    cond (decide (0 ≤ 0) && decide (0 < (↑(List.length x2.2) : Int)))
      (cond (decide (Int.toNat 0 < List.length x2.2))
        (Option.bind (g8 (List.getD x2.2 (Int.toNat 0) ((0, 0, 0, 0, 0, 0, []), 0, [], [])).1.1 (List.getD x2.2 (Int.toNat 0) ((0, 0, 0, 0, 0, 0, []), 0, [], [])).1.2.1 (List.getD x2.2 (Int.toNat 0) ((0, 0, 0, 0, 0, 0, []), 0, [], [])).1.2.2.1 (List.getD x2.2 (Int.toNat 0) ((0, 0, 0, 0, 0, 0, []), 0, [], [])).1.2.2.2.1 (List.getD x2.2 (Int.toNat 0) ((0, 0, 0, 0, 0, 0, []), 0, [], [])).1.2.2.2.2.1 (List.getD x2.2 (Int.toNat 0) ((0, 0, 0, 0, 0, 0, []), 0, [], [])).1.2.2.2.2.2.1 (List.getD x2.2 (Int.toNat 0) ((0, 0, 0, 0, 0, 0, []), 0, [], [])).1.2.2.2.2.2.2 (List.getD x2.2 (Int.toNat 0) ((0, 0, 0, 0, 0, 0, []), 0, [], [])).2.1 (List.getD x2.2 (Int.toNat 0) ((0, 0, 0, 0, 0, 0, []), 0, [], [])).2.2.1 (List.getD x2.2 (Int.toNat 0) ((0, 0, 0, 0, 0, 0, []), 0, [], [])).2.2.2) fun v3 =>
        cond ((↑(List.length v3.2) : Int) != 2)
          (some (([], false)))
          (cond (decide (0 ≤ 1) && decide (1 < (↑(List.length x2.2) : Int)))
            (cond (decide (Int.toNat 1 < List.length x2.2))
              (cond (decide (0 ≤ 0) && decide (0 < (↑(List.length v3.2) : Int)))
                (Option.bind (g13 (List.getD x2.2 (Int.toNat 1) ((0, 0, 0, 0, 0, 0, []), 0, [], [])).1.1 (List.getD x2.2 (Int.toNat 1) ((0, 0, 0, 0, 0, 0, []), 0, [], [])).1.2.1 (List.getD x2.2 (Int.toNat 1) ((0, 0, 0, 0, 0, 0, []), 0, [], [])).1.2.2.1 (List.getD x2.2 (Int.toNat 1) ((0, 0, 0, 0, 0, 0, []), 0, [], [])).1.2.2.2.1 (List.getD x2.2 (Int.toNat 1) ((0, 0, 0, 0, 0, 0, []), 0, [], [])).1.2.2.2.2.1 (List.getD x2.2 (Int.toNat 1) ((0, 0, 0, 0, 0, 0, []), 0, [], [])).1.2.2.2.2.2.1 (List.getD x2.2 (Int.toNat 1) ((0, 0, 0, 0, 0, 0, []), 0, [], [])).1.2.2.2.2.2.2 (List.getD x2.2 (Int.toNat 1) ((0, 0, 0, 0, 0, 0, []), 0, [], [])).2.1 (List.getD x2.2 (Int.toNat 1) ((0, 0, 0, 0, 0, 0, []), 0, [], [])).2.2.1 (List.getD x2.2 (Int.toNat 1) ((0, 0, 0, 0, 0, 0, []), 0, [], [])).2.2.2 (List.getD v3.2 (Int.toNat 0) (0, 0, 0, 0, 0, 0, 0, false, [])).1 (List.getD v3.2 (Int.toNat 0) (0, 0, 0, 0, 0, 0, 0, false, [])).2.1 (List.getD v3.2 (Int.toNat 0) (0, 0, 0, 0, 0, 0, 0, false, [])).2.2.1 (List.getD v3.2 (Int.toNat 0) (0, 0, 0, 0, 0, 0, 0, false, [])).2.2.2.1 (List.getD v3.2 (Int.toNat 0) (0, 0, 0, 0, 0, 0, 0, false, [])).2.2.2.2.1 (List.getD v3.2 (Int.toNat 0) (0, 0, 0, 0, 0, 0, 0, false, [])).2.2.2.2.2.1 (List.getD v3.2 (Int.toNat 0) (0, 0, 0, 0, 0, 0, 0, false, [])).2.2.2.2.2.2.1 (List.getD v3.2 (Int.toNat 0) (0, 0, 0, 0, 0, 0, 0, false, [])).2.2.2.2.2.2.2.1 (List.getD v3.2 (Int.toNat 0) (0, 0, 0, 0, 0, 0, 0, false, [])).2.2.2.2.2.2.2.2) fun v4 =>
                cond ((↑(List.length v4.2) : Int) != 1)
                  (some (([], false)))
                  (cond (decide (0 ≤ 0) && decide (0 < (↑(List.length v4.2) : Int)))
                    (Option.bind (g13 v3.1.1.1 v3.1.1.2.1 v3.1.1.2.2.1 v3.1.1.2.2.2.1 v3.1.1.2.2.2.2.1 v3.1.1.2.2.2.2.2.1 v3.1.1.2.2.2.2.2.2 v3.1.2.1 v3.1.2.2.1 v3.1.2.2.2 (List.getD v4.2 (Int.toNat 0) (0, 0, 0, 0, 0, 0, 0, false, [])).1 (List.getD v4.2 (Int.toNat 0) (0, 0, 0, 0, 0, 0, 0, false, [])).2.1 (List.getD v4.2 (Int.toNat 0) (0, 0, 0, 0, 0, 0, 0, false, [])).2.2.1 (List.getD v4.2 (Int.toNat 0) (0, 0, 0, 0, 0, 0, 0, false, [])).2.2.2.1 (List.getD v4.2 (Int.toNat 0) (0, 0, 0, 0, 0, 0, 0, false, [])).2.2.2.2.1 (List.getD v4.2 (Int.toNat 0) (0, 0, 0, 0, 0, 0, 0, false, [])).2.2.2.2.2.1 (List.getD v4.2 (Int.toNat 0) (0, 0, 0, 0, 0, 0, 0, false, [])).2.2.2.2.2.2.1 (List.getD v4.2 (Int.toNat 0) (0, 0, 0, 0, 0, 0, 0, false, [])).2.2.2.2.2.2.2.1 (List.getD v4.2 (Int.toNat 0) (0, 0, 0, 0, 0, 0, 0, false, [])).2.2.2.2.2.2.2.2) fun v5 =>
                    cond (decide (0 ≤ 0) && decide (0 < (↑(List.length x2.2) : Int)))
                      (cond (decide (Int.toNat 0 < List.length x2.2))
                        (cond (decide (0 ≤ 1) && decide (1 < (↑(List.set x2.2 (Int.toNat 0) v5.1).length : Int)))
                          (cond (decide (Int.toNat 1 < (List.set x2.2 (Int.toNat 0) v5.1).length))
                            (cond (v5.1.1.2.2.2.1 == 2)
                              (some (((List.set x2.2 (Int.toNat 0) v5.1).set (Int.toNat 1) v4.1, (↑(List.length v5.2) : Int) == 2)))
                              (some (((List.set x2.2 (Int.toNat 0) v5.1).set (Int.toNat 1) v4.1, false))))
                            (none))
                          (none))
                        (none))
                      (none))
                    (none)))
                (none))
              (none))
            (none)))
        (none))
      (none)
  | .inr x2 =>
    some (x2)
noncomputable def i28 : FI := ⟨ps28, .tup (.pr (.ty (.sl QS1)) (.ty .b)), fun _ => g28⟩
theorem s28_0 : st28_0 = stepEval T Y env28 an lv28 (finO T true ps28 (.tup (.pr (.ty (.sl QS1)) (.ty .b))) Tryz.f28.results.toList) (loopAt c28 0) ns28_0 ex28_0 := by kernel_rfl
theorem e28 : (fun a => i28.G a) = fnEval T Y env28 an i28.ps i28.rs true Tryz.f28.results.toList lv28 c28 := by kernel_rfl
theorem lo28 : loopsOf c28 = [loopAt c28 0] := by kernel_rfl
theorem ll28 : LoopsOk T Y env28 an lv28 (finO T true ps28 (.tup (.pr (.ty (.sl QS1)) (.ty .b))) Tryz.f28.results.toList) c28 := loopsOk_of (by rw [lo28]; exact ⟨loop1 (li := l28_0) (by kernel_rfl) (by kernel_rfl) s28_0, trivial⟩)
theorem k28 : FnOk Tryz.prog 28 i28 :=
  fn_ok (T := T) (Y := Y) (an := an) (env := env28) (fr := true) (lenv := lv28) mixed tok.1 tok.2 (envCons k61 (envCons k8 (envCons k13 (envNil)))) (fn := Tryz.f28) (c := c28) (by kernel_rfl) (by kernel_rfl) (by kernel_rfl) ll28 (fun a => congrFun e28 a)
/-! ### broker/brokerlaw41.exampleHolds -/
noncomputable def c7 : Code := Tryz.f7.body.getD .skip
noncomputable def env7 : Env := mkEnv [(28, i28), (10, i10), (18, i18), (13, i13), (29, i29), (15, i15), (21, i21), (20, i20), (30, i30)]
abbrev ps7 : List PSh := []
abbrev D7 : Type := pairD (.ty .b) (osOf ps7)
noncomputable def lv7 : Nat → Option (LI D7) := fun _ => none
noncomputable def g7 : Option (Bool) :=
  Option.bind (g28) fun v1 =>
  cond (!v1.2)
    (some (false))
    (cond (decide (0 ≤ 0) && decide (0 < (↑(List.length v1.1) : Int)))
      (Option.bind (g10 (List.getD v1.1 (Int.toNat 0) ((0, 0, 0, 0, 0, 0, []), 0, [], [])).1.1 (List.getD v1.1 (Int.toNat 0) ((0, 0, 0, 0, 0, 0, []), 0, [], [])).1.2.1 (List.getD v1.1 (Int.toNat 0) ((0, 0, 0, 0, 0, 0, []), 0, [], [])).1.2.2.1 (List.getD v1.1 (Int.toNat 0) ((0, 0, 0, 0, 0, 0, []), 0, [], [])).1.2.2.2.1 (List.getD v1.1 (Int.toNat 0) ((0, 0, 0, 0, 0, 0, []), 0, [], [])).1.2.2.2.2.1 (List.getD v1.1 (Int.toNat 0) ((0, 0, 0, 0, 0, 0, []), 0, [], [])).1.2.2.2.2.2.1 (List.getD v1.1 (Int.toNat 0) ((0, 0, 0, 0, 0, 0, []), 0, [], [])).1.2.2.2.2.2.2 (List.getD v1.1 (Int.toNat 0) ((0, 0, 0, 0, 0, 0, []), 0, [], [])).2.1 (List.getD v1.1 (Int.toNat 0) ((0, 0, 0, 0, 0, 0, []), 0, [], [])).2.2.1 (List.getD v1.1 (Int.toNat 0) ((0, 0, 0, 0, 0, 0, []), 0, [], [])).2.2.2 [120]) fun v2 =>
      Option.bind (g18 v2.1.1.1 v2.1.1.2.1 v2.1.1.2.2.1 v2.1.1.2.2.2.1 v2.1.1.2.2.2.2.1 v2.1.1.2.2.2.2.2.1 v2.1.1.2.2.2.2.2.2 v2.1.2.1 v2.1.2.2.1 v2.1.2.2.2) fun v3 =>
      cond (v2.2.1 != 1)
        (some (false))
        (cond (v2.2.2 != 0)
          (some (false))
          (cond (v2.1.2.1 != 0)
            (some (false))
            (cond ((↑(List.length v3) : Int) != 2)
              (some (false))
              (cond (decide (0 ≤ 0) && decide (0 < (↑(List.length v3) : Int)))
                (cond ((↑(List.length (List.getD v3 (Int.toNat 0) (0, 0, 0, 0, 0, 0, 0, false, [])).2.2.2.2.2.2.2.2) : Int) != 1)
                  (some (false))
                  (cond (decide (0 ≤ 1) && decide (1 < (↑(List.length v1.1) : Int)))
                    (cond (decide (0 ≤ 0) && decide (0 < (↑(List.length v3) : Int)))
                      (Option.bind (g13 (List.getD v1.1 (Int.toNat 1) ((0, 0, 0, 0, 0, 0, []), 0, [], [])).1.1 (List.getD v1.1 (Int.toNat 1) ((0, 0, 0, 0, 0, 0, []), 0, [], [])).1.2.1 (List.getD v1.1 (Int.toNat 1) ((0, 0, 0, 0, 0, 0, []), 0, [], [])).1.2.2.1 (List.getD v1.1 (Int.toNat 1) ((0, 0, 0, 0, 0, 0, []), 0, [], [])).1.2.2.2.1 (List.getD v1.1 (Int.toNat 1) ((0, 0, 0, 0, 0, 0, []), 0, [], [])).1.2.2.2.2.1 (List.getD v1.1 (Int.toNat 1) ((0, 0, 0, 0, 0, 0, []), 0, [], [])).1.2.2.2.2.2.1 (List.getD v1.1 (Int.toNat 1) ((0, 0, 0, 0, 0, 0, []), 0, [], [])).1.2.2.2.2.2.2 (List.getD v1.1 (Int.toNat 1) ((0, 0, 0, 0, 0, 0, []), 0, [], [])).2.1 (List.getD v1.1 (Int.toNat 1) ((0, 0, 0, 0, 0, 0, []), 0, [], [])).2.2.1 (List.getD v1.1 (Int.toNat 1) ((0, 0, 0, 0, 0, 0, []), 0, [], [])).2.2.2 (List.getD v3 (Int.toNat 0) (0, 0, 0, 0, 0, 0, 0, false, [])).1 (List.getD v3 (Int.toNat 0) (0, 0, 0, 0, 0, 0, 0, false, [])).2.1 (List.getD v3 (Int.toNat 0) (0, 0, 0, 0, 0, 0, 0, false, [])).2.2.1 (List.getD v3 (Int.toNat 0) (0, 0, 0, 0, 0, 0, 0, false, [])).2.2.2.1 (List.getD v3 (Int.toNat 0) (0, 0, 0, 0, 0, 0, 0, false, [])).2.2.2.2.1 (List.getD v3 (Int.toNat 0) (0, 0, 0, 0, 0, 0, 0, false, [])).2.2.2.2.2.1 (List.getD v3 (Int.toNat 0) (0, 0, 0, 0, 0, 0, 0, false, [])).2.2.2.2.2.2.1 (List.getD v3 (Int.toNat 0) (0, 0, 0, 0, 0, 0, 0, false, [])).2.2.2.2.2.2.2.1 (List.getD v3 (Int.toNat 0) (0, 0, 0, 0, 0, 0, 0, false, [])).2.2.2.2.2.2.2.2) fun v4 =>
                      cond ((↑(List.length v4.2) : Int) != 1)
                        (some (false))
                        (cond (decide (0 ≤ 0) && decide (0 < (↑(List.length v4.2) : Int)))
                          (cond (!(List.getD v4.2 (Int.toNat 0) (0, 0, 0, 0, 0, 0, 0, false, [])).2.2.2.2.2.2.2.1)
                            (some (false))
                            (cond (decide (0 ≤ 0) && decide (0 < (↑(List.length v4.2) : Int)))
                              (cond ((List.getD v4.2 (Int.toNat 0) (0, 0, 0, 0, 0, 0, 0, false, [])).2.2.2.2.1 != 1)
                                (some (false))
                                (cond ((↑(List.length v4.1.2.2.1) : Int) != 1)
                                  (some (false))
                                  (cond (decide (0 ≤ 0) && decide (0 < (↑(List.length v4.2) : Int)))
                                    (Option.bind (g13 v2.1.1.1 v2.1.1.2.1 v2.1.1.2.2.1 v2.1.1.2.2.2.1 v2.1.1.2.2.2.2.1 v2.1.1.2.2.2.2.2.1 v2.1.1.2.2.2.2.2.2 v2.1.2.1 v2.1.2.2.1 v2.1.2.2.2 (List.getD v4.2 (Int.toNat 0) (0, 0, 0, 0, 0, 0, 0, false, [])).1 (List.getD v4.2 (Int.toNat 0) (0, 0, 0, 0, 0, 0, 0, false, [])).2.1 (List.getD v4.2 (Int.toNat 0) (0, 0, 0, 0, 0, 0, 0, false, [])).2.2.1 (List.getD v4.2 (Int.toNat 0) (0, 0, 0, 0, 0, 0, 0, false, [])).2.2.2.1 (List.getD v4.2 (Int.toNat 0) (0, 0, 0, 0, 0, 0, 0, false, [])).2.2.2.2.1 (List.getD v4.2 (Int.toNat 0) (0, 0, 0, 0, 0, 0, 0, false, [])).2.2.2.2.2.1 (List.getD v4.2 (Int.toNat 0) (0, 0, 0, 0, 0, 0, 0, false, [])).2.2.2.2.2.2.1 (List.getD v4.2 (Int.toNat 0) (0, 0, 0, 0, 0, 0, 0, false, [])).2.2.2.2.2.2.2.1 (List.getD v4.2 (Int.toNat 0) (0, 0, 0, 0, 0, 0, 0, false, [])).2.2.2.2.2.2.2.2) fun v5 =>
                                    Option.bind (g13 v4.1.1.1 v4.1.1.2.1 v4.1.1.2.2.1 v4.1.1.2.2.2.1 v4.1.1.2.2.2.2.1 v4.1.1.2.2.2.2.2.1 v4.1.1.2.2.2.2.2.2 v4.1.2.1 v4.1.2.2.1 v4.1.2.2.2 3 0 1 1 5 1 0 false []) fun v6 =>
                                    Option.bind (g10 v4.1.1.1 v4.1.1.2.1 v4.1.1.2.2.1 v4.1.1.2.2.2.1 v4.1.1.2.2.2.2.1 v4.1.1.2.2.2.2.2.1 v4.1.1.2.2.2.2.2.2 v4.1.2.1 v4.1.2.2.1 v4.1.2.2.2 [121]) fun v7 =>
                                    cond (v5.1.2.1 != 1)
                                      (some (false))
                                      (cond ((↑(List.length v5.2) : Int) != 0)
                                        (some (false))
                                        (cond ((↑(List.length v6.2) : Int) != 1)
                                          (some (false))
                                          (cond (decide (0 ≤ 0) && decide (0 < (↑(List.length v6.2) : Int)))
                                            (cond ((List.getD v6.2 (Int.toNat 0) (0, 0, 0, 0, 0, 0, 0, false, [])).2.2.2.2.2.2.2.1)
                                              (some (false))
                                              (cond (v7.2.2 != 24)
                                                (some (false))
                                                (Option.bind (g29 v5.1.2.2.2 [1, 1, 0]) fun v8 =>
                                                cond (!v8)
                                                  (some (false))
                                                  (Option.bind (g15 v5.1.1.1 v5.1.1.2.1 v5.1.1.2.2.1 v5.1.1.2.2.2.1 v5.1.1.2.2.2.2.1 v5.1.1.2.2.2.2.2.1 v5.1.1.2.2.2.2.2.2 v5.1.2.1 v5.1.2.2.1 v5.1.2.2.2) fun v9 =>
                                                  Option.bind (g21 v9.1.1 v9.1.2.1 v9.1.2.2.1 v9.1.2.2.2.1 v9.1.2.2.2.2.1 v9.1.2.2.2.2.2.1 v9.1.2.2.2.2.2.2 v9.2.1 v9.2.2.1 v9.2.2.2) fun v10 =>
                                                  cond ((↑(List.length v10) : Int) == 0)
                                                    (cond ((↑(List.length v9.2.2.1) : Int) == 1)
                                                      (Option.bind (g21 v5.1.1.1 v5.1.1.2.1 v5.1.1.2.2.1 v5.1.1.2.2.2.1 v5.1.1.2.2.2.2.1 v5.1.1.2.2.2.2.2.1 v5.1.1.2.2.2.2.2.2 v5.1.2.1 v5.1.2.2.1 v5.1.2.2.2) fun v11 =>
                                                      Option.bind (g20 v11 [[120]]) fun v12 =>
                                                      cond (v12)
                                                        (Option.bind (g30 v5.1.1.1 v5.1.1.2.1 v5.1.1.2.2.1 v5.1.1.2.2.2.1 v5.1.1.2.2.2.2.1 v5.1.1.2.2.2.2.2.1 v5.1.1.2.2.2.2.2.2 v5.1.2.1 v5.1.2.2.1 v5.1.2.2.2) fun v13 =>
                                                        some (v13 == 0))
                                                        (some (false)))
                                                      (some (false)))
                                                    (some (false))))))
                                            (none)))))
                                    (none))))
                              (none)))
                          (none)))
                      (none))
                    (none)))
                (none))))))
      (none))
noncomputable def i7 : FI := ⟨ps7, .ty .b, fun _ => g7⟩
theorem e7 : (fun a => i7.G a) = fnEval T Y env7 an i7.ps i7.rs true Tryz.f7.results.toList lv7 c7 := by kernel_rfl
theorem lo7 : loopsOf c7 = [] := by kernel_rfl
theorem ll7 : LoopsOk T Y env7 an lv7 (finO T true ps7 (.ty .b) Tryz.f7.results.toList) c7 := loopsOk_of (by rw [lo7]; exact trivial)
theorem k7 : FnOk Tryz.prog 7 i7 :=
  fn_ok (T := T) (Y := Y) (an := an) (env := env7) (fr := true) (lenv := lv7) mixed tok.1 tok.2 (envCons k28 (envCons k10 (envCons k18 (envCons k13 (envCons k29 (envCons k15 (envCons k21 (envCons k20 (envCons k30 (envNil)))))))))) (fn := Tryz.f7) (c := c7) (by kernel_rfl) (by kernel_rfl) (by kernel_rfl) ll7 (fun a => congrFun e7 a)
end Go.Proofs.YtfadalgikdffeaaGreat.EVT
