/- What functions compute, as printed (U, part E). -/
import Derived.Test.YtfadalgikdffeaaUB
set_option linter.unusedVariables false
set_option maxRecDepth 100000
set_option maxHeartbeats 0
namespace Go.Proofs.Ytfadalgikdffeaa.EVT
open Go Go.EV
/-! ### broker/replica.clone -/
noncomputable def c39 : Code := Try.f39.body.getD .skip
noncomputable def env39 : Env := mkEnv [(56, i56), (51, i51)]
abbrev ps39 : List PSh := [.d (.st (.pr (.st (.pr (.i .i64) (.pr (.i .i64) (.pr (.i .i64) (.pr (.i .i64) (.pr (.i .i64) (.pr (.i .i64) (.sl (.i .i64))))))))) (.pr (.i .i64) (.pr (.sl (.st (.pr (.i .i64) .s))) (.sl (.i .i64))))))]
abbrev D39 : Type := pairD (.ag (.pr (.ty (.st (.pr (.i .i64) (.pr (.i .i64) (.pr (.i .i64) (.pr (.i .i64) (.pr (.i .i64) (.pr (.i .i64) (.sl (.i .i64)))))))))) (.pr (.ty (.i .i64)) (.pr (.ow 2 (.st (.pr (.i .i64) .s))) (.ow 1 (.i .i64)))))) (osOf ps39)
noncomputable def lv39 : Nat → Option (LI D39) := fun _ => none
noncomputable def g39 (a0_0_0 : Int) (a0_0_1 : Int) (a0_0_2 : Int) (a0_0_3 : Int) (a0_0_4 : Int) (a0_0_5 : Int) (a0_0_6 : List Int) (a0_1 : Int) (a0_2 : List (Int × List UInt8)) (a0_3 : List Int) : Option ((Int × Int × Int × Int × Int × Int × List Int) × Int × (List (Int × List UInt8)) × List Int) :=
  Option.bind (g56 a0_0_6) fun v1 =>
  Option.bind (g51 a0_2) fun v2 =>
  Option.bind (g56 a0_3) fun v3 =>
  some (((a0_0_0, a0_0_1, a0_0_2, a0_0_3, a0_0_4, a0_0_5, v1), a0_1, v2, v3))
noncomputable def i39 : FI := ⟨ps39, .ag (.pr (.ty (.st (.pr (.i .i64) (.pr (.i .i64) (.pr (.i .i64) (.pr (.i .i64) (.pr (.i .i64) (.pr (.i .i64) (.sl (.i .i64)))))))))) (.pr (.ty (.i .i64)) (.pr (.ow 2 (.st (.pr (.i .i64) .s))) (.ow 1 (.i .i64))))), fun ((a0_0_0, a0_0_1, a0_0_2, a0_0_3, a0_0_4, a0_0_5, a0_0_6), a0_1, a0_2, a0_3) => g39 a0_0_0 a0_0_1 a0_0_2 a0_0_3 a0_0_4 a0_0_5 a0_0_6 a0_1 a0_2 a0_3⟩
theorem e39 : (fun a => i39.G a) = fnEval T Y env39 (zapA an [(4, 1, [0])]) i39.ps i39.rs false Try.f39.results.toList lv39 c39 := by kernel_rfl
theorem lo39 : loopsOf c39 = [] := by kernel_rfl
theorem ll39 : LoopsOk T Y env39 (zapA an [(4, 1, [0])]) lv39 (finO T false ps39 (.ag (.pr (.ty (.st (.pr (.i .i64) (.pr (.i .i64) (.pr (.i .i64) (.pr (.i .i64) (.pr (.i .i64) (.pr (.i .i64) (.sl (.i .i64)))))))))) (.pr (.ty (.i .i64)) (.pr (.ow 2 (.st (.pr (.i .i64) .s))) (.ow 1 (.i .i64)))))) Try.f39.results.toList) c39 := loopsOk_of (by rw [lo39]; exact trivial)
theorem k39 : FnOk Try.prog 39 i39 :=
  fn_ok (T := T) (Y := Y) (an := zapA an [(4, 1, [0])]) (env := env39) (fr := false) (lenv := lv39) mixed tok.1 tok.2 (envCons k56 (envCons k51 (envNil))) (fn := Try.f39) (c := c39) (by kernel_rfl) (by kernel_rfl) (by kernel_rfl) ll39 (fun a => congrFun e39 a)
/-! ### broker/vote.clone -/
noncomputable def c57 : Code := Try.f57.body.getD .skip
noncomputable def env57 : Env := mkEnv [(56, i56)]
abbrev ps57 : List PSh := [.d (.st (.pr (.i .i64) (.pr (.i .i64) (.pr (.i .i64) (.pr (.i .i64) (.pr (.i .i64) (.pr (.i .i64) (.sl (.i .i64)))))))))]
abbrev D57 : Type := pairD (.ag (.pr (.ty (.i .i64)) (.pr (.ty (.i .i64)) (.pr (.ty (.i .i64)) (.pr (.ty (.i .i64)) (.pr (.ty (.i .i64)) (.pr (.ty (.i .i64)) (.ow 1 (.i .i64))))))))) (osOf ps57)
noncomputable def lv57 : Nat → Option (LI D57) := fun _ => none
noncomputable def g57 (a0_0 : Int) (a0_1 : Int) (a0_2 : Int) (a0_3 : Int) (a0_4 : Int) (a0_5 : Int) (a0_6 : List Int) : Option (Int × Int × Int × Int × Int × Int × List Int) :=
  Option.bind (g56 a0_6) fun v1 =>
  some ((a0_0, a0_1, a0_2, a0_3, a0_4, a0_5, v1))
noncomputable def i57 : FI := ⟨ps57, .ag (.pr (.ty (.i .i64)) (.pr (.ty (.i .i64)) (.pr (.ty (.i .i64)) (.pr (.ty (.i .i64)) (.pr (.ty (.i .i64)) (.pr (.ty (.i .i64)) (.ow 1 (.i .i64)))))))), fun (a0_0, a0_1, a0_2, a0_3, a0_4, a0_5, a0_6) => g57 a0_0 a0_1 a0_2 a0_3 a0_4 a0_5 a0_6⟩
theorem e57 : (fun a => i57.G a) = fnEval T Y env57 an i57.ps i57.rs false Try.f57.results.toList lv57 c57 := by kernel_rfl
theorem lo57 : loopsOf c57 = [] := by kernel_rfl
theorem ll57 : LoopsOk T Y env57 an lv57 (finO T false ps57 (.ag (.pr (.ty (.i .i64)) (.pr (.ty (.i .i64)) (.pr (.ty (.i .i64)) (.pr (.ty (.i .i64)) (.pr (.ty (.i .i64)) (.pr (.ty (.i .i64)) (.ow 1 (.i .i64))))))))) Try.f57.results.toList) c57 := loopsOk_of (by rw [lo57]; exact trivial)
theorem k57 : FnOk Try.prog 57 i57 :=
  fn_ok (T := T) (Y := Y) (an := an) (env := env57) (fr := false) (lenv := lv57) mixed tok.1 tok.2 (envCons k56 (envNil)) (fn := Try.f57) (c := c57) (by kernel_rfl) (by kernel_rfl) (by kernel_rfl) ll57 (fun a => congrFun e57 a)
/-! ### broker/vote.adopt -/
noncomputable def c58 : Code := Try.f58.body.getD .skip
noncomputable def env58 : Env := mkEnv []
abbrev ps58 : List PSh := [.d (.st (.pr (.i .i64) (.pr (.i .i64) (.pr (.i .i64) (.pr (.i .i64) (.pr (.i .i64) (.pr (.i .i64) (.sl (.i .i64))))))))), .d (.i .i64)]
abbrev D58 : Type := pairD (.ty (.st (.pr (.i .i64) (.pr (.i .i64) (.pr (.i .i64) (.pr (.i .i64) (.pr (.i .i64) (.pr (.i .i64) (.sl (.i .i64)))))))))) (osOf ps58)
noncomputable def lv58 : Nat → Option (LI D58) := fun _ => none
noncomputable def g58 (a0_0 : Int) (a0_1 : Int) (a0_2 : Int) (a0_3 : Int) (a0_4 : Int) (a0_5 : Int) (a0_6 : List Int) (a1 : Int) : Option (Int × Int × Int × Int × Int × Int × List Int) :=
  some ((a0_0, a0_1, a1, 0, -1, -1, []))
noncomputable def i58 : FI := ⟨ps58, .ty (.st (.pr (.i .i64) (.pr (.i .i64) (.pr (.i .i64) (.pr (.i .i64) (.pr (.i .i64) (.pr (.i .i64) (.sl (.i .i64))))))))), fun ((a0_0, a0_1, a0_2, a0_3, a0_4, a0_5, a0_6), a1) => g58 a0_0 a0_1 a0_2 a0_3 a0_4 a0_5 a0_6 a1⟩
theorem e58 : (fun a => i58.G a) = fnEval T Y env58 an i58.ps i58.rs true Try.f58.results.toList lv58 c58 := by kernel_rfl
theorem lo58 : loopsOf c58 = [] := by kernel_rfl
theorem ll58 : LoopsOk T Y env58 an lv58 (finO T true ps58 (.ty (.st (.pr (.i .i64) (.pr (.i .i64) (.pr (.i .i64) (.pr (.i .i64) (.pr (.i .i64) (.pr (.i .i64) (.sl (.i .i64)))))))))) Try.f58.results.toList) c58 := loopsOk_of (by rw [lo58]; exact trivial)
theorem k58 : FnOk Try.prog 58 i58 :=
  fn_ok (T := T) (Y := Y) (an := an) (env := env58) (fr := true) (lenv := lv58) mixed tok.1 tok.2 (envNil) (fn := Try.f58) (c := c58) (by kernel_rfl) (by kernel_rfl) (by kernel_rfl) ll58 (fun a => congrFun e58 a)
/-! ### broker/vote.lead -/
noncomputable def c59 : Code := Try.f59.body.getD .skip
noncomputable def env59 : Env := mkEnv []
abbrev ps59 : List PSh := [.d (.st (.pr (.i .i64) (.pr (.i .i64) (.pr (.i .i64) (.pr (.i .i64) (.pr (.i .i64) (.pr (.i .i64) (.sl (.i .i64)))))))))]
abbrev D59 : Type := pairD (.ty (.st (.pr (.i .i64) (.pr (.i .i64) (.pr (.i .i64) (.pr (.i .i64) (.pr (.i .i64) (.pr (.i .i64) (.sl (.i .i64)))))))))) (osOf ps59)
noncomputable def lv59 : Nat → Option (LI D59) := fun _ => none
noncomputable def g59 (a0_0 : Int) (a0_1 : Int) (a0_2 : Int) (a0_3 : Int) (a0_4 : Int) (a0_5 : Int) (a0_6 : List Int) : Option (Int × Int × Int × Int × Int × Int × List Int) :=
  some ((a0_0, a0_1, a0_2, 2, a0_4, a0_0, []))
noncomputable def i59 : FI := ⟨ps59, .ty (.st (.pr (.i .i64) (.pr (.i .i64) (.pr (.i .i64) (.pr (.i .i64) (.pr (.i .i64) (.pr (.i .i64) (.sl (.i .i64))))))))), fun (a0_0, a0_1, a0_2, a0_3, a0_4, a0_5, a0_6) => g59 a0_0 a0_1 a0_2 a0_3 a0_4 a0_5 a0_6⟩
theorem e59 : (fun a => i59.G a) = fnEval T Y env59 an i59.ps i59.rs true Try.f59.results.toList lv59 c59 := by kernel_rfl
theorem lo59 : loopsOf c59 = [] := by kernel_rfl
theorem ll59 : LoopsOk T Y env59 an lv59 (finO T true ps59 (.ty (.st (.pr (.i .i64) (.pr (.i .i64) (.pr (.i .i64) (.pr (.i .i64) (.pr (.i .i64) (.pr (.i .i64) (.sl (.i .i64)))))))))) Try.f59.results.toList) c59 := loopsOk_of (by rw [lo59]; exact trivial)
theorem k59 : FnOk Try.prog 59 i59 :=
  fn_ok (T := T) (Y := Y) (an := an) (env := env59) (fr := true) (lenv := lv59) mixed tok.1 tok.2 (envNil) (fn := Try.f59) (c := c59) (by kernel_rfl) (by kernel_rfl) (by kernel_rfl) ll59 (fun a => congrFun e59 a)
/-! ### broker/vote.concerns -/
noncomputable def c60 : Code := Try.f60.body.getD .skip
noncomputable def env60 : Env := mkEnv []
abbrev ps60 : List PSh := [.d (.st (.pr (.i .i64) (.pr (.i .i64) (.pr (.i .i64) (.pr (.i .i64) (.pr (.i .i64) (.pr (.i .i64) (.sl (.i .i64))))))))), .d (.st (.pr (.i .i64) (.pr (.i .i64) (.pr (.i .i64) (.pr (.i .i64) (.pr (.i .i64) (.pr (.i .i64) (.pr (.i .i64) (.pr .b (.sl (.st (.pr (.i .i64) .s))))))))))))]
abbrev D60 : Type := pairD (.ty .b) (osOf ps60)
noncomputable def lv60 : Nat → Option (LI D60) := fun _ => none
noncomputable def g60 (a0_0 : Int) (a0_1 : Int) (a0_2 : Int) (a0_3 : Int) (a0_4 : Int) (a0_5 : Int) (a0_6 : List Int) (a1_0 : Int) (a1_1 : Int) (a1_2 : Int) (a1_3 : Int) (a1_4 : Int) (a1_5 : Int) (a1_6 : Int) (a1_7 : Bool) (a1_8 : List (Int × List UInt8)) : Option (Bool) :=
  cond (a1_2 == a0_0)
    (cond (a1_1 != a0_0)
      (cond (decide (a1_1 ≥ 0))
        (cond (decide (a1_1 < a0_1))
          (cond (decide (a1_3 ≥ 1))
            (some (decide (a1_3 ≤ 1099511627776)))
            (some (false)))
          (some (false)))
        (some (false)))
      (some (false)))
    (some (false))
noncomputable def i60 : FI := ⟨ps60, .ty .b, fun ((a0_0, a0_1, a0_2, a0_3, a0_4, a0_5, a0_6), (a1_0, a1_1, a1_2, a1_3, a1_4, a1_5, a1_6, a1_7, a1_8)) => g60 a0_0 a0_1 a0_2 a0_3 a0_4 a0_5 a0_6 a1_0 a1_1 a1_2 a1_3 a1_4 a1_5 a1_6 a1_7 a1_8⟩
theorem e60 : (fun a => i60.G a) = fnEval T Y env60 an i60.ps i60.rs true Try.f60.results.toList lv60 c60 := by kernel_rfl
theorem lo60 : loopsOf c60 = [] := by kernel_rfl
theorem ll60 : LoopsOk T Y env60 an lv60 (finO T true ps60 (.ty .b) Try.f60.results.toList) c60 := loopsOk_of (by rw [lo60]; exact trivial)
theorem k60 : FnOk Try.prog 60 i60 :=
  fn_ok (T := T) (Y := Y) (an := an) (env := env60) (fr := true) (lenv := lv60) mixed tok.1 tok.2 (envNil) (fn := Try.f60) (c := c60) (by kernel_rfl) (by kernel_rfl) (by kernel_rfl) ll60 (fun a => congrFun e60 a)
/-! ### broker/vote.Observe -/
noncomputable def c61 : Code := Try.f61.body.getD .skip
noncomputable def env61 : Env := mkEnv [(57, i57), (58, i58)]
abbrev ps61 : List PSh := [.d (.st (.pr (.i .i64) (.pr (.i .i64) (.pr (.i .i64) (.pr (.i .i64) (.pr (.i .i64) (.pr (.i .i64) (.sl (.i .i64))))))))), .d (.i .i64)]
abbrev D61 : Type := pairD (.ty (.st (.pr (.i .i64) (.pr (.i .i64) (.pr (.i .i64) (.pr (.i .i64) (.pr (.i .i64) (.pr (.i .i64) (.sl (.i .i64)))))))))) (osOf ps61)
noncomputable def lv61 : Nat → Option (LI D61) := fun _ => none
noncomputable def g61 (a0_0 : Int) (a0_1 : Int) (a0_2 : Int) (a0_3 : Int) (a0_4 : Int) (a0_5 : Int) (a0_6 : List Int) (a1 : Int) : Option (Int × Int × Int × Int × Int × Int × List Int) :=
  cond (decide (a1 ≤ a0_2))
    (Option.bind (g57 a0_0 a0_1 a0_2 a0_3 a0_4 a0_5 a0_6) fun v1 =>
    some (v1))
    (cond (decide (a1 > 1099511627776))
      (Option.bind (g57 a0_0 a0_1 a0_2 a0_3 a0_4 a0_5 a0_6) fun v2 =>
      some (v2))
      (Option.bind (g58 a0_0 a0_1 a0_2 a0_3 a0_4 a0_5 a0_6 a1) fun v3 =>
      some (v3)))
noncomputable def i61 : FI := ⟨ps61, .ty (.st (.pr (.i .i64) (.pr (.i .i64) (.pr (.i .i64) (.pr (.i .i64) (.pr (.i .i64) (.pr (.i .i64) (.sl (.i .i64))))))))), fun ((a0_0, a0_1, a0_2, a0_3, a0_4, a0_5, a0_6), a1) => g61 a0_0 a0_1 a0_2 a0_3 a0_4 a0_5 a0_6 a1⟩
theorem e61 : (fun a => i61.G a) = fnEval T Y env61 an i61.ps i61.rs true Try.f61.results.toList lv61 c61 := by kernel_rfl
theorem lo61 : loopsOf c61 = [] := by kernel_rfl
theorem ll61 : LoopsOk T Y env61 an lv61 (finO T true ps61 (.ty (.st (.pr (.i .i64) (.pr (.i .i64) (.pr (.i .i64) (.pr (.i .i64) (.pr (.i .i64) (.pr (.i .i64) (.sl (.i .i64)))))))))) Try.f61.results.toList) c61 := loopsOk_of (by rw [lo61]; exact trivial)
theorem k61 : FnOk Try.prog 61 i61 :=
  fn_ok (T := T) (Y := Y) (an := an) (env := env61) (fr := true) (lenv := lv61) mixed tok.1 tok.2 (envCons k57 (envCons k58 (envNil))) (fn := Try.f61) (c := c61) (by kernel_rfl) (by kernel_rfl) (by kernel_rfl) ll61 (fun a => congrFun e61 a)
/-! ### broker/vote.Campaign -/
noncomputable def c40 : Code := Try.f40.body.getD .skip
noncomputable def env40 : Env := mkEnv [(57, i57), (58, i58), (59, i59)]
abbrev ps40 : List PSh := [.d (.st (.pr (.i .i64) (.pr (.i .i64) (.pr (.i .i64) (.pr (.i .i64) (.pr (.i .i64) (.pr (.i .i64) (.sl (.i .i64))))))))), .d (.i .i64), .d (.i .i64)]
abbrev D40 : Type := pairD (.tup (.pr (.ty (.st (.pr (.i .i64) (.pr (.i .i64) (.pr (.i .i64) (.pr (.i .i64) (.pr (.i .i64) (.pr (.i .i64) (.sl (.i .i64)))))))))) (.ty (.sl (.st (.pr (.i .i64) (.pr (.i .i64) (.pr (.i .i64) (.pr (.i .i64) (.pr (.i .i64) (.pr (.i .i64) (.pr (.i .i64) (.pr .b (.sl (.st (.pr (.i .i64) .s)))))))))))))))) (osOf ps40)
def ns40_0 : NS := { slots := [(3, .pt 3 []), (6, .pt 6 []), (8, .pt 8 []), (9, .hw 53), (1, .ty (.i .i64)), (2, .ty (.i .i64)), (35, .ty (.i .i64)), (36, .ty (.i .i64))], roots := [(53, .ar 9 (.st (.pr (.i .i64) (.pr (.i .i64) (.pr (.i .i64) (.pr (.i .i64) (.pr (.i .i64) (.pr (.i .i64) (.pr (.i .i64) (.pr .b (.sl (.st (.pr (.i .i64) .s))))))))))))), (8, .ag (.pr (.ty (.i .i64)) (.pr (.ty (.i .i64)) (.pr (.ty (.i .i64)) (.pr (.ty (.i .i64)) (.pr (.ty (.i .i64)) (.pr (.ty (.i .i64)) (.hw 31)))))))), (6, .ty (.st (.pr (.i .i64) (.pr (.i .i64) (.pr (.i .i64) (.pr (.i .i64) (.pr (.i .i64) (.pr (.i .i64) (.sl (.i .i64)))))))))), (3, .ty (.st (.pr (.i .i64) (.pr (.i .i64) (.pr (.i .i64) (.pr (.i .i64) (.pr (.i .i64) (.pr (.i .i64) (.sl (.i .i64)))))))))), (31, .ar 1 (.i .i64))], ad := [{ t := 9, path := [], g := 53, d := 9, τ := (.st (.pr (.i .i64) (.pr (.i .i64) (.pr (.i .i64) (.pr (.i .i64) (.pr (.i .i64) (.pr (.i .i64) (.pr (.i .i64) (.pr .b (.sl (.st (.pr (.i .i64) .s))))))))))) : Ty) }] }
def ex40_0 : List (Nat × NS) := [(0, { slots := [(6, .pt 6 []), (8, .pt 8 []), (9, .hw 53)], roots := [(53, .ar 9 (.st (.pr (.i .i64) (.pr (.i .i64) (.pr (.i .i64) (.pr (.i .i64) (.pr (.i .i64) (.pr (.i .i64) (.pr (.i .i64) (.pr .b (.sl (.st (.pr (.i .i64) .s))))))))))))), (8, .ag (.pr (.ty (.i .i64)) (.pr (.ty (.i .i64)) (.pr (.ty (.i .i64)) (.pr (.ty (.i .i64)) (.pr (.ty (.i .i64)) (.pr (.ty (.i .i64)) (.hw 31)))))))), (6, .ty (.st (.pr (.i .i64) (.pr (.i .i64) (.pr (.i .i64) (.pr (.i .i64) (.pr (.i .i64) (.pr (.i .i64) (.sl (.i .i64)))))))))), (31, .ar 1 (.i .i64))] })]
noncomputable def st40_0 (ih : ((Int × Int × Int × Int) × ((List (Int × Int × Int × Int × Int × Int × Int × Bool × List (Int × List UInt8))) × (Int × Int × Int × Int × Int × Int × Unit) × (Int × Int × Int × Int × Int × Int × List Int) × (Int × Int × Int × Int × Int × Int × List Int) × List Int)) → Option (((Unit) × ((List (Int × Int × Int × Int × Int × Int × Int × Bool × List (Int × List UInt8))) × (Int × Int × Int × Int × Int × Int × Unit) × (Int × Int × Int × Int × Int × Int × List Int) × List Int)) ⊕ (((Int × Int × Int × Int × Int × Int × List Int) × List (Int × Int × Int × Int × Int × Int × Int × Bool × List (Int × List UInt8)))))) : ((Int × Int × Int × Int) × ((List (Int × Int × Int × Int × Int × Int × Int × Bool × List (Int × List UInt8))) × (Int × Int × Int × Int × Int × Int × Unit) × (Int × Int × Int × Int × Int × Int × List Int) × (Int × Int × Int × Int × Int × Int × List Int) × List Int)) → Option (((Unit) × ((List (Int × Int × Int × Int × Int × Int × Int × Bool × List (Int × List UInt8))) × (Int × Int × Int × Int × Int × Int × Unit) × (Int × Int × Int × Int × Int × Int × List Int) × List Int)) ⊕ (((Int × Int × Int × Int × Int × Int × List Int) × List (Int × Int × Int × Int × Int × Int × Int × Bool × List (Int × List UInt8))))) := fun ((t1, t2, t35, t36), (r53, (r8_0, r8_1, r8_2, r8_3, r8_4, r8_5, ()), (r6_0, r6_1, r6_2, r6_3, r6_4, r6_5, r6_6), (r3_0, r3_1, r3_2, r3_3, r3_4, r3_5, r3_6), r31)) =>
  cond (decide (t36 < t35))
    (cond (t36 != r3_0)
      (cond (decide (r53.length + 1 ≤ 2147483647))
        (ih ((t1, t2, t35, IntKind.i64.wrap (t36 + 1)), r53 ++ [(1, r3_0, t36, r8_2, t1, t2, 0, false, [])], (r8_0, r8_1, r8_2, r8_3, r8_4, r8_5, ()), (r6_0, r6_1, r6_2, r6_3, r6_4, r6_5, r6_6), (r3_0, r3_1, r3_2, r3_3, r3_4, r3_5, r3_6), r31))
        (none))
      (ih ((t1, t2, t35, IntKind.i64.wrap (t36 + 1)), r53, (r8_0, r8_1, r8_2, r8_3, r8_4, r8_5, ()), (r6_0, r6_1, r6_2, r6_3, r6_4, r6_5, r6_6), (r3_0, r3_1, r3_2, r3_3, r3_4, r3_5, r3_6), r31)))
    (some (Sum.inl ((), r53, (r8_0, r8_1, r8_2, r8_3, r8_4, r8_5, ()), (r6_0, r6_1, r6_2, r6_3, r6_4, r6_5, r6_6), r31)))
noncomputable def h40_0 : ((Int × Int × Int × Int) × ((List (Int × Int × Int × Int × Int × Int × Int × Bool × List (Int × List UInt8))) × (Int × Int × Int × Int × Int × Int × Unit) × (Int × Int × Int × Int × Int × Int × List Int) × (Int × Int × Int × Int × Int × Int × List Int) × List Int)) → Option (((Unit) × ((List (Int × Int × Int × Int × Int × Int × Int × Bool × List (Int × List UInt8))) × (Int × Int × Int × Int × Int × Int × Unit) × (Int × Int × Int × Int × Int × Int × List Int) × List Int)) ⊕ (((Int × Int × Int × Int × Int × Int × List Int) × List (Int × Int × Int × Int × Int × Int × Int × Bool × List (Int × List UInt8))))) := loopN st40_0 fuel
noncomputable def l40_0 : LI D40 := ⟨ns40_0, ex40_0, h40_0⟩
noncomputable def lv40 : Nat → Option (LI D40) := fun q => if q = 10 then some l40_0 else (fun _ => none) q
noncomputable def g40 (a0_0 : Int) (a0_1 : Int) (a0_2 : Int) (a0_3 : Int) (a0_4 : Int) (a0_5 : Int) (a0_6 : List Int) (a1 : Int) (a2 : Int) : Option ((Int × Int × Int × Int × Int × Int × List Int) × List (Int × Int × Int × Int × Int × Int × Int × Bool × List (Int × List UInt8))) :=
  cond (decide (a0_2 ≥ 1099511627776))
    (Option.bind (g57 a0_0 a0_1 a0_2 a0_3 a0_4 a0_5 a0_6) fun v1 =>
    some ((v1, [])))
    (Option.bind (g58 a0_0 a0_1 a0_2 a0_3 a0_4 a0_5 a0_6 (IntKind.i64.wrap (a0_2 + 1))) fun v2 =>
    cond (a0_1 == 1)
      (Option.bind (g59 v2.1 v2.2.1 v2.2.2.1 v2.2.2.2.1 a0_0 v2.2.2.2.2.2.1 v2.2.2.2.2.2.2) fun v3 =>
      some ((v3, [])))
      (Option.bind (h40_0 ((a1, a2, a0_1, 0), [], (v2.1, v2.2.1, v2.2.2.1, 1, a0_0, v2.2.2.2.2.2.1, ()), (0, 0, 0, 0, 0, 0, []), (a0_0, a0_1, a0_2, a0_3, a0_4, a0_5, a0_6), [a0_0])) fun v4 =>
      match v4 with
      | .inl x5 =>
        some (((x5.2.2.1.1, x5.2.2.1.2.1, x5.2.2.1.2.2.1, x5.2.2.1.2.2.2.1, x5.2.2.1.2.2.2.2.1, x5.2.2.1.2.2.2.2.2.1, x5.2.2.2.2), x5.2.1))
      | .inr x5 =>
        some (x5)))
noncomputable def i40 : FI := ⟨ps40, .tup (.pr (.ty (.st (.pr (.i .i64) (.pr (.i .i64) (.pr (.i .i64) (.pr (.i .i64) (.pr (.i .i64) (.pr (.i .i64) (.sl (.i .i64)))))))))) (.ty (.sl (.st (.pr (.i .i64) (.pr (.i .i64) (.pr (.i .i64) (.pr (.i .i64) (.pr (.i .i64) (.pr (.i .i64) (.pr (.i .i64) (.pr .b (.sl (.st (.pr (.i .i64) .s))))))))))))))), fun ((a0_0, a0_1, a0_2, a0_3, a0_4, a0_5, a0_6), a1, a2) => g40 a0_0 a0_1 a0_2 a0_3 a0_4 a0_5 a0_6 a1 a2⟩
theorem s40_0 : st40_0 = stepEval T Y env40 an lv40 (finO T true ps40 (.tup (.pr (.ty (.st (.pr (.i .i64) (.pr (.i .i64) (.pr (.i .i64) (.pr (.i .i64) (.pr (.i .i64) (.pr (.i .i64) (.sl (.i .i64)))))))))) (.ty (.sl (.st (.pr (.i .i64) (.pr (.i .i64) (.pr (.i .i64) (.pr (.i .i64) (.pr (.i .i64) (.pr (.i .i64) (.pr (.i .i64) (.pr .b (.sl (.st (.pr (.i .i64) .s)))))))))))))))) Try.f40.results.toList) (loopAt c40 0) ns40_0 ex40_0 := by kernel_rfl
theorem e40 : (fun a => i40.G a) = fnEval T Y env40 an i40.ps i40.rs true Try.f40.results.toList lv40 c40 := by kernel_rfl
theorem lo40 : loopsOf c40 = [loopAt c40 0] := by kernel_rfl
theorem ll40 : LoopsOk T Y env40 an lv40 (finO T true ps40 (.tup (.pr (.ty (.st (.pr (.i .i64) (.pr (.i .i64) (.pr (.i .i64) (.pr (.i .i64) (.pr (.i .i64) (.pr (.i .i64) (.sl (.i .i64)))))))))) (.ty (.sl (.st (.pr (.i .i64) (.pr (.i .i64) (.pr (.i .i64) (.pr (.i .i64) (.pr (.i .i64) (.pr (.i .i64) (.pr (.i .i64) (.pr .b (.sl (.st (.pr (.i .i64) .s)))))))))))))))) Try.f40.results.toList) c40 := loopsOk_of (by rw [lo40]; exact ⟨loop1 (li := l40_0) (by kernel_rfl) (by kernel_rfl) s40_0, trivial⟩)
theorem k40 : FnOk Try.prog 40 i40 :=
  fn_ok (T := T) (Y := Y) (an := an) (env := env40) (fr := true) (lenv := lv40) mixed tok.1 tok.2 (envCons k57 (envCons k58 (envCons k59 (envNil)))) (fn := Try.f40) (c := c40) (by kernel_rfl) (by kernel_rfl) (by kernel_rfl) ll40 (fun a => congrFun e40 a)
/-! ### broker/vote.Answer -/
noncomputable def c44 : Code := Try.f44.body.getD .skip
noncomputable def env44 : Env := mkEnv [(60, i60), (57, i57), (61, i61)]
abbrev ps44 : List PSh := [.d (.st (.pr (.i .i64) (.pr (.i .i64) (.pr (.i .i64) (.pr (.i .i64) (.pr (.i .i64) (.pr (.i .i64) (.sl (.i .i64))))))))), .d (.st (.pr (.i .i64) (.pr (.i .i64) (.pr (.i .i64) (.pr (.i .i64) (.pr (.i .i64) (.pr (.i .i64) (.pr (.i .i64) (.pr .b (.sl (.st (.pr (.i .i64) .s)))))))))))), .d (.i .i64), .d (.i .i64)]
abbrev D44 : Type := pairD (.tup (.pr (.ty (.st (.pr (.i .i64) (.pr (.i .i64) (.pr (.i .i64) (.pr (.i .i64) (.pr (.i .i64) (.pr (.i .i64) (.sl (.i .i64)))))))))) (.ty (.st (.pr (.i .i64) (.pr (.i .i64) (.pr (.i .i64) (.pr (.i .i64) (.pr (.i .i64) (.pr (.i .i64) (.pr (.i .i64) (.pr .b (.sl (.st (.pr (.i .i64) .s))))))))))))))) (osOf ps44)
noncomputable def lv44 : Nat → Option (LI D44) := fun _ => none
noncomputable def g44 (a0_0 : Int) (a0_1 : Int) (a0_2 : Int) (a0_3 : Int) (a0_4 : Int) (a0_5 : Int) (a0_6 : List Int) (a1_0 : Int) (a1_1 : Int) (a1_2 : Int) (a1_3 : Int) (a1_4 : Int) (a1_5 : Int) (a1_6 : Int) (a1_7 : Bool) (a1_8 : List (Int × List UInt8)) (a2 : Int) (a3 : Int) : Option ((Int × Int × Int × Int × Int × Int × List Int) × Int × Int × Int × Int × Int × Int × Int × Bool × List (Int × List UInt8)) :=
  cond (a1_0 != 1)
    (Option.bind (g57 a0_0 a0_1 a0_2 a0_3 a0_4 a0_5 a0_6) fun v1 =>
    some ((v1, 0, 0, 0, 0, 0, 0, 0, false, [])))
    (Option.bind (g60 a0_0 a0_1 a0_2 a0_3 a0_4 a0_5 a0_6 a1_0 a1_1 a1_2 a1_3 a1_4 a1_5 a1_6 a1_7 a1_8) fun v2 =>
    cond (!v2)
      (Option.bind (g57 a0_0 a0_1 a0_2 a0_3 a0_4 a0_5 a0_6) fun v3 =>
      some ((v3, 0, 0, 0, 0, 0, 0, 0, false, [])))
      (Option.bind (g61 a0_0 a0_1 a0_2 a0_3 a0_4 a0_5 a0_6 a1_3) fun v4 =>
      cond (decide (a1_5 > a3))
        (cond (a1_3 == v4.2.2.1)
          (cond (v4.2.2.2.2.1 == -1)
            (some (((v4.1, v4.2.1, v4.2.2.1, v4.2.2.2.1, a1_1, v4.2.2.2.2.2), 2, a0_0, a1_1, v4.2.2.1, 0, 0, 0, true, [])))
            (cond (v4.2.2.2.2.1 == a1_1)
              (some (((v4.1, v4.2.1, v4.2.2.1, v4.2.2.2.1, a1_1, v4.2.2.2.2.2), 2, a0_0, a1_1, v4.2.2.1, 0, 0, 0, true, [])))
              (some ((v4, 2, a0_0, a1_1, v4.2.2.1, 0, 0, 0, false, [])))))
          (some ((v4, 2, a0_0, a1_1, v4.2.2.1, 0, 0, 0, false, []))))
        (cond (a1_5 == a3)
          (cond (a1_3 == v4.2.2.1)
            (cond (v4.2.2.2.2.1 == -1)
              (cond (decide (a1_4 ≥ a2))
                (some (((v4.1, v4.2.1, v4.2.2.1, v4.2.2.2.1, a1_1, v4.2.2.2.2.2), 2, a0_0, a1_1, v4.2.2.1, 0, 0, 0, decide (a1_4 ≥ a2), [])))
                (some ((v4, 2, a0_0, a1_1, v4.2.2.1, 0, 0, 0, decide (a1_4 ≥ a2), []))))
              (cond (v4.2.2.2.2.1 == a1_1)
                (cond (decide (a1_4 ≥ a2))
                  (some (((v4.1, v4.2.1, v4.2.2.1, v4.2.2.2.1, a1_1, v4.2.2.2.2.2), 2, a0_0, a1_1, v4.2.2.1, 0, 0, 0, decide (a1_4 ≥ a2), [])))
                  (some ((v4, 2, a0_0, a1_1, v4.2.2.1, 0, 0, 0, decide (a1_4 ≥ a2), []))))
                (some ((v4, 2, a0_0, a1_1, v4.2.2.1, 0, 0, 0, false, [])))))
            (some ((v4, 2, a0_0, a1_1, v4.2.2.1, 0, 0, 0, false, []))))
          (cond (a1_3 == v4.2.2.1)
            (cond (v4.2.2.2.2.1 == -1)
              (some ((v4, 2, a0_0, a1_1, v4.2.2.1, 0, 0, 0, false, [])))
              (cond (v4.2.2.2.2.1 == a1_1)
                (some ((v4, 2, a0_0, a1_1, v4.2.2.1, 0, 0, 0, false, [])))
                (some ((v4, 2, a0_0, a1_1, v4.2.2.1, 0, 0, 0, false, [])))))
            (some ((v4, 2, a0_0, a1_1, v4.2.2.1, 0, 0, 0, false, [])))))))
noncomputable def i44 : FI := ⟨ps44, .tup (.pr (.ty (.st (.pr (.i .i64) (.pr (.i .i64) (.pr (.i .i64) (.pr (.i .i64) (.pr (.i .i64) (.pr (.i .i64) (.sl (.i .i64)))))))))) (.ty (.st (.pr (.i .i64) (.pr (.i .i64) (.pr (.i .i64) (.pr (.i .i64) (.pr (.i .i64) (.pr (.i .i64) (.pr (.i .i64) (.pr .b (.sl (.st (.pr (.i .i64) .s)))))))))))))), fun ((a0_0, a0_1, a0_2, a0_3, a0_4, a0_5, a0_6), (a1_0, a1_1, a1_2, a1_3, a1_4, a1_5, a1_6, a1_7, a1_8), a2, a3) => g44 a0_0 a0_1 a0_2 a0_3 a0_4 a0_5 a0_6 a1_0 a1_1 a1_2 a1_3 a1_4 a1_5 a1_6 a1_7 a1_8 a2 a3⟩
theorem e44 : (fun a => i44.G a) = fnEval T Y env44 an i44.ps i44.rs true Try.f44.results.toList lv44 c44 := by kernel_rfl
theorem lo44 : loopsOf c44 = [] := by kernel_rfl
theorem ll44 : LoopsOk T Y env44 an lv44 (finO T true ps44 (.tup (.pr (.ty (.st (.pr (.i .i64) (.pr (.i .i64) (.pr (.i .i64) (.pr (.i .i64) (.pr (.i .i64) (.pr (.i .i64) (.sl (.i .i64)))))))))) (.ty (.st (.pr (.i .i64) (.pr (.i .i64) (.pr (.i .i64) (.pr (.i .i64) (.pr (.i .i64) (.pr (.i .i64) (.pr (.i .i64) (.pr .b (.sl (.st (.pr (.i .i64) .s))))))))))))))) Try.f44.results.toList) c44 := loopsOk_of (by rw [lo44]; exact trivial)
theorem k44 : FnOk Try.prog 44 i44 :=
  fn_ok (T := T) (Y := Y) (an := an) (env := env44) (fr := true) (lenv := lv44) mixed tok.1 tok.2 (envCons k60 (envCons k57 (envCons k61 (envNil)))) (fn := Try.f44) (c := c44) (by kernel_rfl) (by kernel_rfl) (by kernel_rfl) ll44 (fun a => congrFun e44 a)
/-! ### broker/vote.Count -/
noncomputable def c46 : Code := Try.f46.body.getD .skip
noncomputable def env46 : Env := mkEnv [(60, i60), (57, i57), (61, i61), (62, i62), (59, i59)]
abbrev ps46 : List PSh := [.d (.st (.pr (.i .i64) (.pr (.i .i64) (.pr (.i .i64) (.pr (.i .i64) (.pr (.i .i64) (.pr (.i .i64) (.sl (.i .i64))))))))), .d (.st (.pr (.i .i64) (.pr (.i .i64) (.pr (.i .i64) (.pr (.i .i64) (.pr (.i .i64) (.pr (.i .i64) (.pr (.i .i64) (.pr .b (.sl (.st (.pr (.i .i64) .s))))))))))))]
abbrev D46 : Type := pairD (.ty (.st (.pr (.i .i64) (.pr (.i .i64) (.pr (.i .i64) (.pr (.i .i64) (.pr (.i .i64) (.pr (.i .i64) (.sl (.i .i64)))))))))) (osOf ps46)
def ns46_1 : NS := { slots := [(4, .pt 4 []), (5, .pt 5 []), (56, .ar 1 .b), (57, .ty (.i .i64))], roots := [(66, .ar 1 (.i .i64)), (5, .ag (.pr (.ty (.i .i64)) (.pr (.ty (.i .i64)) (.pr (.ty (.i .i64)) (.pr (.ty (.i .i64)) (.pr (.ty (.i .i64)) (.pr (.ty (.i .i64)) (.hw 66)))))))), (4, .ty (.st (.pr (.i .i64) (.pr (.i .i64) (.pr (.i .i64) (.pr (.i .i64) (.pr (.i .i64) (.pr (.i .i64) (.sl (.i .i64))))))))))], ad := [{ t := 5, path := [(6, 6)], g := 66, d := 1, τ := (.i .i64 : Ty) }] }
def ex46_1 : List (Nat × NS) := [(2, { slots := [(4, .pt 4 []), (5, .pt 5 [])], roots := [(5, .ag (.pr (.ty (.i .i64)) (.pr (.ty (.i .i64)) (.pr (.ty (.i .i64)) (.pr (.ty (.i .i64)) (.pr (.ty (.i .i64)) (.pr (.ty (.i .i64)) (.hw 66)))))))), (4, .ty (.st (.pr (.i .i64) (.pr (.i .i64) (.pr (.i .i64) (.pr (.i .i64) (.pr (.i .i64) (.pr (.i .i64) (.sl (.i .i64)))))))))), (66, .ar 1 (.i .i64))] })]
noncomputable def st46_1 (ih : ((List Bool × Int) × (List Int × (Int × Int × Int × Int × Int × Int × Unit) × Int × Int × Int × Int × Int × Int × List Int)) → Option (((Unit) × ((Int × Int × Int × Int × Int × Int × Unit) × (Int × Int × Int × Int × Int × Int × List Int) × List Int)) ⊕ ((Int × Int × Int × Int × Int × Int × List Int)))) : ((List Bool × Int) × (List Int × (Int × Int × Int × Int × Int × Int × Unit) × Int × Int × Int × Int × Int × Int × List Int)) → Option (((Unit) × ((Int × Int × Int × Int × Int × Int × Unit) × (Int × Int × Int × Int × Int × Int × List Int) × List Int)) ⊕ ((Int × Int × Int × Int × Int × Int × List Int))) := fun ((t56, t57), (r66, (r5_0, r5_1, r5_2, r5_3, r5_4, r5_5, ()), (r4_0, r4_1, r4_2, r4_3, r4_4, r4_5, r4_6))) =>
  cond (decide (t57 < 7))
    (cond (decide (0 ≤ t57) && decide (t57 < (↑7 : Int)) && decide (t57 < (↑t56.length : Int)))
      (cond (t56.getD t57.toNat false)
        (cond (decide (r66.length + 1 ≤ 2147483647))
          (ih ((t56, IntKind.i64.wrap (t57 + 1)), r66 ++ [t57], (r5_0, r5_1, r5_2, r5_3, r5_4, r5_5, ()), r4_0, r4_1, r4_2, r4_3, r4_4, r4_5, r4_6))
          (none))
        (ih ((t56, IntKind.i64.wrap (t57 + 1)), r66, (r5_0, r5_1, r5_2, r5_3, r5_4, r5_5, ()), r4_0, r4_1, r4_2, r4_3, r4_4, r4_5, r4_6)))
      (none))
    (some (Sum.inl ((), (r5_0, r5_1, r5_2, r5_3, r5_4, r5_5, ()), (r4_0, r4_1, r4_2, r4_3, r4_4, r4_5, r4_6), r66)))
noncomputable def h46_1 : ((List Bool × Int) × (List Int × (Int × Int × Int × Int × Int × Int × Unit) × Int × Int × Int × Int × Int × Int × List Int)) → Option (((Unit) × ((Int × Int × Int × Int × Int × Int × Unit) × (Int × Int × Int × Int × Int × Int × List Int) × List Int)) ⊕ ((Int × Int × Int × Int × Int × Int × List Int))) := loopN st46_1 fuel
noncomputable def l46_1 : LI D46 := ⟨ns46_1, ex46_1, h46_1⟩
def ns46_0 : NS := { slots := [(4, .pt 4 []), (5, .pt 5 []), (6, .pt 6 []), (46, .ty (.sl (.i .i64))), (47, .ty (.i .i64)), (48, .ty (.i .i64))], roots := [(6, .ar 1 .b), (5, .ty (.st (.pr (.i .i64) (.pr (.i .i64) (.pr (.i .i64) (.pr (.i .i64) (.pr (.i .i64) (.pr (.i .i64) (.sl (.i .i64)))))))))), (4, .ty (.st (.pr (.i .i64) (.pr (.i .i64) (.pr (.i .i64) (.pr (.i .i64) (.pr (.i .i64) (.pr (.i .i64) (.sl (.i .i64))))))))))] }
def ex46_0 : List (Nat × NS) := [(0, { slots := [(4, .pt 4 []), (5, .pt 5 []), (6, .pt 6 [])], roots := [(6, .ar 1 .b), (5, .ty (.st (.pr (.i .i64) (.pr (.i .i64) (.pr (.i .i64) (.pr (.i .i64) (.pr (.i .i64) (.pr (.i .i64) (.sl (.i .i64)))))))))), (4, .ty (.st (.pr (.i .i64) (.pr (.i .i64) (.pr (.i .i64) (.pr (.i .i64) (.pr (.i .i64) (.pr (.i .i64) (.sl (.i .i64))))))))))] })]
noncomputable def st46_0 (ih : ((List Int × Int × Int) × (List Bool × (Int × Int × Int × Int × Int × Int × List Int) × Int × Int × Int × Int × Int × Int × List Int)) → Option (((Unit) × (List Bool × (Int × Int × Int × Int × Int × Int × List Int) × Int × Int × Int × Int × Int × Int × List Int)) ⊕ ((Int × Int × Int × Int × Int × Int × List Int)))) : ((List Int × Int × Int) × (List Bool × (Int × Int × Int × Int × Int × Int × List Int) × Int × Int × Int × Int × Int × Int × List Int)) → Option (((Unit) × (List Bool × (Int × Int × Int × Int × Int × Int × List Int) × Int × Int × Int × Int × Int × Int × List Int)) ⊕ ((Int × Int × Int × Int × Int × Int × List Int))) := fun ((t46, t47, t48), (r6, (r5_0, r5_1, r5_2, r5_3, r5_4, r5_5, r5_6), (r4_0, r4_1, r4_2, r4_3, r4_4, r4_5, r4_6))) =>
  cond (decide (t48 < t47))
    (cond (decide (0 ≤ t48) && decide (t48 < (↑t46.length : Int)))
      (cond (decide (0 ≤ t46.getD t48.toNat 0) && decide (t46.getD t48.toNat 0 < (↑7 : Int)))
        (cond (decide ((t46.getD t48.toNat 0).toNat < r6.length))
          (ih ((t46, t47, IntKind.i64.wrap (t48 + 1)), r6.set (t46.getD t48.toNat 0).toNat true, (r5_0, r5_1, r5_2, r5_3, r5_4, r5_5, r5_6), r4_0, r4_1, r4_2, r4_3, r4_4, r4_5, r4_6))
          (none))
        (none))
      (none))
    (some (Sum.inl ((), r6, (r5_0, r5_1, r5_2, r5_3, r5_4, r5_5, r5_6), r4_0, r4_1, r4_2, r4_3, r4_4, r4_5, r4_6)))
noncomputable def h46_0 : ((List Int × Int × Int) × (List Bool × (Int × Int × Int × Int × Int × Int × List Int) × Int × Int × Int × Int × Int × Int × List Int)) → Option (((Unit) × (List Bool × (Int × Int × Int × Int × Int × Int × List Int) × Int × Int × Int × Int × Int × Int × List Int)) ⊕ ((Int × Int × Int × Int × Int × Int × List Int))) := loopN st46_0 fuel
noncomputable def l46_0 : LI D46 := ⟨ns46_0, ex46_0, h46_0⟩
noncomputable def lv46 : Nat → Option (LI D46) := fun q => if q = 9 then some l46_0 else (fun q => if q = 15 then some l46_1 else (fun _ => none) q) q
noncomputable def g46 (a0_0 : Int) (a0_1 : Int) (a0_2 : Int) (a0_3 : Int) (a0_4 : Int) (a0_5 : Int) (a0_6 : List Int) (a1_0 : Int) (a1_1 : Int) (a1_2 : Int) (a1_3 : Int) (a1_4 : Int) (a1_5 : Int) (a1_6 : Int) (a1_7 : Bool) (a1_8 : List (Int × List UInt8)) : Option (Int × Int × Int × Int × Int × Int × List Int) :=
  cond (a1_0 != 2)
    (Option.bind (g57 a0_0 a0_1 a0_2 a0_3 a0_4 a0_5 a0_6) fun v1 =>
    some (v1))
    (Option.bind (g60 a0_0 a0_1 a0_2 a0_3 a0_4 a0_5 a0_6 a1_0 a1_1 a1_2 a1_3 a1_4 a1_5 a1_6 a1_7 a1_8) fun v2 =>
    cond (!v2)
      (Option.bind (g57 a0_0 a0_1 a0_2 a0_3 a0_4 a0_5 a0_6) fun v3 =>
      some (v3))
      (Option.bind (g61 a0_0 a0_1 a0_2 a0_3 a0_4 a0_5 a0_6 a1_3) fun v4 =>
      cond (a1_3 != v4.2.2.1)
        (some (v4))
        (cond (v4.2.2.2.1 != 1)
          (some (v4))
          (cond (!a1_7)
            (some (v4))
            (cond (decide (0 ≤ a1_1) && decide (a1_1 < (↑7 : Int)))
              (cond (decide (a1_1.toNat < 7))
                (Option.bind (h46_0 ((v4.2.2.2.2.2.2, (↑(List.length v4.2.2.2.2.2.2) : Int), 0), [false, false, false, false, false, false, false].set a1_1.toNat true, v4, 0, 0, 0, 0, 0, 0, [])) fun v5 =>
                match v5 with
                | .inl x6 =>
                  cond (true == true && true && 1 * List.length x6.2.1 == 7 && true)
                    (Option.bind (h46_1 ((x6.2.1, 0), [], (x6.2.2.1.1, x6.2.2.1.2.1, x6.2.2.1.2.2.1, x6.2.2.1.2.2.2.1, x6.2.2.1.2.2.2.2.1, x6.2.2.1.2.2.2.2.2.1, ()), x6.2.2.2)) fun v7 =>
                    match v7 with
                    | .inl x8 =>
                      Option.bind (g62 (↑(List.length x8.2.2.2) : Int) x8.2.1.2.1) fun v9 =>
                      cond (v9)
                        (Option.bind (g59 x8.2.1.1 x8.2.1.2.1 x8.2.1.2.2.1 x8.2.1.2.2.2.1 x8.2.1.2.2.2.2.1 x8.2.1.2.2.2.2.2.1 x8.2.2.2) fun v10 =>
                        some (v10))
                        (some ((x8.2.1.1, x8.2.1.2.1, x8.2.1.2.2.1, x8.2.1.2.2.2.1, x8.2.1.2.2.2.2.1, x8.2.1.2.2.2.2.2.1, x8.2.2.2)))
                    | .inr x8 =>
                      some (x8))
                    (none)
                | .inr x6 =>
                  some (x6))
                (none))
              (none))))))
noncomputable def i46 : FI := ⟨ps46, .ty (.st (.pr (.i .i64) (.pr (.i .i64) (.pr (.i .i64) (.pr (.i .i64) (.pr (.i .i64) (.pr (.i .i64) (.sl (.i .i64))))))))), fun ((a0_0, a0_1, a0_2, a0_3, a0_4, a0_5, a0_6), (a1_0, a1_1, a1_2, a1_3, a1_4, a1_5, a1_6, a1_7, a1_8)) => g46 a0_0 a0_1 a0_2 a0_3 a0_4 a0_5 a0_6 a1_0 a1_1 a1_2 a1_3 a1_4 a1_5 a1_6 a1_7 a1_8⟩
theorem s46_1 : st46_1 = stepEval T Y env46 an lv46 (finO T true ps46 (.ty (.st (.pr (.i .i64) (.pr (.i .i64) (.pr (.i .i64) (.pr (.i .i64) (.pr (.i .i64) (.pr (.i .i64) (.sl (.i .i64)))))))))) Try.f46.results.toList) (loopAt c46 1) ns46_1 ex46_1 := by kernel_rfl
theorem s46_0 : st46_0 = stepEval T Y env46 an lv46 (finO T true ps46 (.ty (.st (.pr (.i .i64) (.pr (.i .i64) (.pr (.i .i64) (.pr (.i .i64) (.pr (.i .i64) (.pr (.i .i64) (.sl (.i .i64)))))))))) Try.f46.results.toList) (loopAt c46 0) ns46_0 ex46_0 := by kernel_rfl
theorem e46 : (fun a => i46.G a) = fnEval T Y env46 an i46.ps i46.rs true Try.f46.results.toList lv46 c46 := by kernel_rfl
theorem lo46 : loopsOf c46 = [loopAt c46 0, loopAt c46 1] := by kernel_rfl
theorem ll46 : LoopsOk T Y env46 an lv46 (finO T true ps46 (.ty (.st (.pr (.i .i64) (.pr (.i .i64) (.pr (.i .i64) (.pr (.i .i64) (.pr (.i .i64) (.pr (.i .i64) (.sl (.i .i64)))))))))) Try.f46.results.toList) c46 := loopsOk_of (by rw [lo46]; exact ⟨loop1 (li := l46_0) (by kernel_rfl) (by kernel_rfl) s46_0, ⟨loop1 (li := l46_1) (by kernel_rfl) (by kernel_rfl) s46_1, trivial⟩⟩)
theorem k46 : FnOk Try.prog 46 i46 :=
  fn_ok (T := T) (Y := Y) (an := an) (env := env46) (fr := true) (lenv := lv46) mixed tok.1 tok.2 (envCons k60 (envCons k57 (envCons k61 (envCons k62 (envCons k59 (envNil)))))) (fn := Try.f46) (c := c46) (by kernel_rfl) (by kernel_rfl) (by kernel_rfl) ll46 (fun a => congrFun e46 a)
/-! ### broker/replica.begin -/
noncomputable def c42 : Code := Try.f42.body.getD .skip
noncomputable def env42 : Env := mkEnv []
abbrev ps42 : List PSh := [.d (.st (.pr (.st (.pr (.i .i64) (.pr (.i .i64) (.pr (.i .i64) (.pr (.i .i64) (.pr (.i .i64) (.pr (.i .i64) (.sl (.i .i64))))))))) (.pr (.i .i64) (.pr (.sl (.st (.pr (.i .i64) .s))) (.sl (.i .i64))))))]
abbrev D42 : Type := pairD (.ty (.st (.pr (.st (.pr (.i .i64) (.pr (.i .i64) (.pr (.i .i64) (.pr (.i .i64) (.pr (.i .i64) (.pr (.i .i64) (.sl (.i .i64))))))))) (.pr (.i .i64) (.pr (.sl (.st (.pr (.i .i64) .s))) (.sl (.i .i64))))))) (osOf ps42)
noncomputable def lv42 : Nat → Option (LI D42) := fun _ => none
noncomputable def g42 (a0_0_0 : Int) (a0_0_1 : Int) (a0_0_2 : Int) (a0_0_3 : Int) (a0_0_4 : Int) (a0_0_5 : Int) (a0_0_6 : List Int) (a0_1 : Int) (a0_2 : List (Int × List UInt8)) (a0_3 : List Int) : Option ((Int × Int × Int × Int × Int × Int × List Int) × Int × List (Int × List UInt8) × List Int) :=
  cond (decide (0 ≤ a0_0_1) && decide (a0_0_1 ≤ a0_0_1) && decide (a0_0_1 ≤ 2147483647))
    (cond (decide (0 ≤ a0_0_0) && decide (a0_0_0 < (↑(List.replicate a0_0_1.toNat (0 : Int)).length : Int)))
      (cond (decide (a0_0_0.toNat < (List.replicate a0_0_1.toNat (0 : Int)).length))
        (some (((a0_0_0, a0_0_1, a0_0_2, a0_0_3, a0_0_4, a0_0_5, a0_0_6), a0_1, a0_2, (List.replicate a0_0_1.toNat 0).set a0_0_0.toNat (↑a0_2.length : Int))))
        (none))
      (none))
    (none)
noncomputable def i42 : FI := ⟨ps42, .ty (.st (.pr (.st (.pr (.i .i64) (.pr (.i .i64) (.pr (.i .i64) (.pr (.i .i64) (.pr (.i .i64) (.pr (.i .i64) (.sl (.i .i64))))))))) (.pr (.i .i64) (.pr (.sl (.st (.pr (.i .i64) .s))) (.sl (.i .i64)))))), fun ((a0_0_0, a0_0_1, a0_0_2, a0_0_3, a0_0_4, a0_0_5, a0_0_6), a0_1, a0_2, a0_3) => g42 a0_0_0 a0_0_1 a0_0_2 a0_0_3 a0_0_4 a0_0_5 a0_0_6 a0_1 a0_2 a0_3⟩
theorem e42 : (fun a => i42.G a) = fnEval T Y env42 an i42.ps i42.rs true Try.f42.results.toList lv42 c42 := by kernel_rfl
theorem lo42 : loopsOf c42 = [] := by kernel_rfl
theorem ll42 : LoopsOk T Y env42 an lv42 (finO T true ps42 (.ty (.st (.pr (.st (.pr (.i .i64) (.pr (.i .i64) (.pr (.i .i64) (.pr (.i .i64) (.pr (.i .i64) (.pr (.i .i64) (.sl (.i .i64))))))))) (.pr (.i .i64) (.pr (.sl (.st (.pr (.i .i64) .s))) (.sl (.i .i64))))))) Try.f42.results.toList) c42 := loopsOk_of (by rw [lo42]; exact trivial)
theorem k42 : FnOk Try.prog 42 i42 :=
  fn_ok (T := T) (Y := Y) (an := an) (env := env42) (fr := true) (lenv := lv42) mixed tok.1 tok.2 (envNil) (fn := Try.f42) (c := c42) (by kernel_rfl) (by kernel_rfl) (by kernel_rfl) ll42 (fun a => congrFun e42 a)
/-! ### broker/replica.withBallot -/
noncomputable def c45 : Code := Try.f45.body.getD .skip
noncomputable def env45 : Env := mkEnv [(34, i34)]
abbrev ps45 : List PSh := [.ow (.ag (.pr (.ty (.st (.pr (.i .i64) (.pr (.i .i64) (.pr (.i .i64) (.pr (.i .i64) (.pr (.i .i64) (.pr (.i .i64) (.sl (.i .i64)))))))))) (.pr (.ty (.i .i64)) (.pr (.ow 2 (.st (.pr (.i .i64) .s))) (.ow 1 (.i .i64)))))), .d (.st (.pr (.i .i64) (.pr (.i .i64) (.pr (.i .i64) (.pr (.i .i64) (.pr (.i .i64) (.pr (.i .i64) (.sl (.i .i64)))))))))]
abbrev D45 : Type := pairD (.ag (.pr (.ty (.st (.pr (.i .i64) (.pr (.i .i64) (.pr (.i .i64) (.pr (.i .i64) (.pr (.i .i64) (.pr (.i .i64) (.sl (.i .i64)))))))))) (.pr (.ty (.i .i64)) (.pr (.ow 2 (.st (.pr (.i .i64) .s))) (.ow 1 (.i .i64)))))) (osOf ps45)
noncomputable def lv45 : Nat → Option (LI D45) := fun _ => none
noncomputable def g45 (a0_0_0 : Int) (a0_0_1 : Int) (a0_0_2 : Int) (a0_0_3 : Int) (a0_0_4 : Int) (a0_0_5 : Int) (a0_0_6 : List Int) (a0_1 : Int) (a0_2 : List (Int × List UInt8)) (a0_3 : List Int) (a1_0 : Int) (a1_1 : Int) (a1_2 : Int) (a1_3 : Int) (a1_4 : Int) (a1_5 : Int) (a1_6 : List Int) : Option ((Int × Int × Int × Int × Int × Int × List Int) × Int × (List (Int × List UInt8)) × List Int) :=
  Option.bind (g34 a1_0 a1_1 a1_2 a1_3 a1_4 a1_5 a1_6 a0_1 a0_2 a0_3) fun v1 =>
  cond (!v1)
    (some (((a1_0, a1_1, a1_2, a1_3, a1_4, a1_5, a1_6), a0_1, a0_2, [])))
    (some (((a1_0, a1_1, a1_2, a1_3, a1_4, a1_5, a1_6), a0_1, a0_2, a0_3)))
noncomputable def i45 : FI := ⟨ps45, .ag (.pr (.ty (.st (.pr (.i .i64) (.pr (.i .i64) (.pr (.i .i64) (.pr (.i .i64) (.pr (.i .i64) (.pr (.i .i64) (.sl (.i .i64)))))))))) (.pr (.ty (.i .i64)) (.pr (.ow 2 (.st (.pr (.i .i64) .s))) (.ow 1 (.i .i64))))), fun (((a0_0_0, a0_0_1, a0_0_2, a0_0_3, a0_0_4, a0_0_5, a0_0_6), a0_1, a0_2, a0_3), (a1_0, a1_1, a1_2, a1_3, a1_4, a1_5, a1_6)) => g45 a0_0_0 a0_0_1 a0_0_2 a0_0_3 a0_0_4 a0_0_5 a0_0_6 a0_1 a0_2 a0_3 a1_0 a1_1 a1_2 a1_3 a1_4 a1_5 a1_6⟩
theorem e45 : (fun a => i45.G a) = fnEval T Y env45 an i45.ps i45.rs false Try.f45.results.toList lv45 c45 := by kernel_rfl
theorem lo45 : loopsOf c45 = [] := by kernel_rfl
theorem ll45 : LoopsOk T Y env45 an lv45 (finO T false ps45 (.ag (.pr (.ty (.st (.pr (.i .i64) (.pr (.i .i64) (.pr (.i .i64) (.pr (.i .i64) (.pr (.i .i64) (.pr (.i .i64) (.sl (.i .i64)))))))))) (.pr (.ty (.i .i64)) (.pr (.ow 2 (.st (.pr (.i .i64) .s))) (.ow 1 (.i .i64)))))) Try.f45.results.toList) c45 := loopsOk_of (by rw [lo45]; exact trivial)
theorem k45 : FnOk Try.prog 45 i45 :=
  fn_ok (T := T) (Y := Y) (an := an) (env := env45) (fr := false) (lenv := lv45) mixed tok.1 tok.2 (envCons k34 (envNil)) (fn := Try.f45) (c := c45) (by kernel_rfl) (by kernel_rfl) (by kernel_rfl) ll45 (fun a => congrFun e45 a)
/-! ### broker/replica.appended -/
noncomputable def c49 : Code := Try.f49.body.getD .skip
noncomputable def env49 : Env := mkEnv [(61, i61), (45, i45), (34, i34), (50, i50)]
abbrev ps49 : List PSh := [.ow (.ag (.pr (.ty (.st (.pr (.i .i64) (.pr (.i .i64) (.pr (.i .i64) (.pr (.i .i64) (.pr (.i .i64) (.pr (.i .i64) (.sl (.i .i64)))))))))) (.pr (.ty (.i .i64)) (.pr (.ow 2 (.st (.pr (.i .i64) .s))) (.ow 1 (.i .i64)))))), .d (.st (.pr (.i .i64) (.pr (.i .i64) (.pr (.i .i64) (.pr (.i .i64) (.pr (.i .i64) (.pr (.i .i64) (.pr (.i .i64) (.pr .b (.sl (.st (.pr (.i .i64) .s))))))))))))]
abbrev D49 : Type := pairD (.ty (.st (.pr (.st (.pr (.i .i64) (.pr (.i .i64) (.pr (.i .i64) (.pr (.i .i64) (.pr (.i .i64) (.pr (.i .i64) (.sl (.i .i64))))))))) (.pr (.i .i64) (.pr (.sl (.st (.pr (.i .i64) .s))) (.sl (.i .i64))))))) (osOf ps49)
noncomputable def lv49 : Nat → Option (LI D49) := fun _ => none
noncomputable def g49 (a0_0_0 : Int) (a0_0_1 : Int) (a0_0_2 : Int) (a0_0_3 : Int) (a0_0_4 : Int) (a0_0_5 : Int) (a0_0_6 : List Int) (a0_1 : Int) (a0_2 : List (Int × List UInt8)) (a0_3 : List Int) (a1_0 : Int) (a1_1 : Int) (a1_2 : Int) (a1_3 : Int) (a1_4 : Int) (a1_5 : Int) (a1_6 : Int) (a1_7 : Bool) (a1_8 : List (Int × List UInt8)) : Option ((Int × Int × Int × Int × Int × Int × List Int) × Int × List (Int × List UInt8) × List Int) :=
  cond (decide (a1_3 > a0_0_2))
    (Option.bind (g61 a0_0_0 a0_0_1 a0_0_2 a0_0_3 a0_0_4 a0_0_5 a0_0_6 a1_3) fun v1 =>
    Option.bind (g45 a0_0_0 a0_0_1 a0_0_2 a0_0_3 a0_0_4 a0_0_5 a0_0_6 a0_1 a0_2 a0_3 v1.1 v1.2.1 v1.2.2.1 v1.2.2.2.1 v1.2.2.2.2.1 v1.2.2.2.2.2.1 v1.2.2.2.2.2.2) fun v2 =>
    some (v2))
    (cond (decide (a1_3 < a0_0_2))
      (some (((a0_0_0, a0_0_1, a0_0_2, a0_0_3, a0_0_4, a0_0_5, a0_0_6), a0_1, a0_2, a0_3)))
      (Option.bind (g34 a0_0_0 a0_0_1 a0_0_2 a0_0_3 a0_0_4 a0_0_5 a0_0_6 a0_1 a0_2 a0_3) fun v3 =>
      cond (!v3)
        (some (((a0_0_0, a0_0_1, a0_0_2, a0_0_3, a0_0_4, a0_0_5, a0_0_6), a0_1, a0_2, a0_3)))
        (cond (!a1_7)
          (some (((a0_0_0, a0_0_1, a0_0_2, a0_0_3, a0_0_4, a0_0_5, a0_0_6), a0_1, a0_2, a0_3)))
          (cond (decide (a1_4 < 0))
            (some (((a0_0_0, a0_0_1, a0_0_2, a0_0_3, a0_0_4, a0_0_5, a0_0_6), a0_1, a0_2, a0_3)))
            (cond (decide (a1_4 > (↑a0_2.length : Int)))
              (some (((a0_0_0, a0_0_1, a0_0_2, a0_0_3, a0_0_4, a0_0_5, a0_0_6), a0_1, a0_2, a0_3)))
              (cond (decide (0 ≤ a1_1) && decide (a1_1 < (↑a0_3.length : Int)))
                (cond (decide (a1_1.toNat < a0_3.length))
                  (cond (decide (a1_4 ≤ a0_3.getD a1_1.toNat 0))
                    (some (((a0_0_0, a0_0_1, a0_0_2, a0_0_3, a0_0_4, a0_0_5, a0_0_6), a0_1, a0_2, a0_3)))
                    (cond (decide (0 ≤ a1_1) && decide (a1_1 < (↑a0_3.length : Int)))
                      (cond (decide (a1_1.toNat < a0_3.length))
                        (Option.bind (g50 a0_0_0 a0_0_1 a0_0_2 a0_0_3 a0_0_4 a0_0_5 a0_0_6 a0_1 a0_2 (a0_3.set a1_1.toNat a1_4)) fun v4 =>
                        some (v4))
                        (none))
                      (none)))
                  (none))
                (none)))))))
noncomputable def i49 : FI := ⟨ps49, .ty (.st (.pr (.st (.pr (.i .i64) (.pr (.i .i64) (.pr (.i .i64) (.pr (.i .i64) (.pr (.i .i64) (.pr (.i .i64) (.sl (.i .i64))))))))) (.pr (.i .i64) (.pr (.sl (.st (.pr (.i .i64) .s))) (.sl (.i .i64)))))), fun (((a0_0_0, a0_0_1, a0_0_2, a0_0_3, a0_0_4, a0_0_5, a0_0_6), a0_1, a0_2, a0_3), (a1_0, a1_1, a1_2, a1_3, a1_4, a1_5, a1_6, a1_7, a1_8)) => g49 a0_0_0 a0_0_1 a0_0_2 a0_0_3 a0_0_4 a0_0_5 a0_0_6 a0_1 a0_2 a0_3 a1_0 a1_1 a1_2 a1_3 a1_4 a1_5 a1_6 a1_7 a1_8⟩
theorem e49 : (fun a => i49.G a) = fnEval T Y env49 an i49.ps i49.rs true Try.f49.results.toList lv49 c49 := by kernel_rfl
theorem lo49 : loopsOf c49 = [] := by kernel_rfl
theorem ll49 : LoopsOk T Y env49 an lv49 (finO T true ps49 (.ty (.st (.pr (.st (.pr (.i .i64) (.pr (.i .i64) (.pr (.i .i64) (.pr (.i .i64) (.pr (.i .i64) (.pr (.i .i64) (.sl (.i .i64))))))))) (.pr (.i .i64) (.pr (.sl (.st (.pr (.i .i64) .s))) (.sl (.i .i64))))))) Try.f49.results.toList) c49 := loopsOk_of (by rw [lo49]; exact trivial)
theorem k49 : FnOk Try.prog 49 i49 :=
  fn_ok (T := T) (Y := Y) (an := an) (env := env49) (fr := true) (lenv := lv49) mixed tok.1 tok.2 (envCons k61 (envCons k45 (envCons k34 (envCons k50 (envNil))))) (fn := Try.f49) (c := c49) (by kernel_rfl) (by kernel_rfl) (by kernel_rfl) ll49 (fun a => congrFun e49 a)
/-! ### broker/replica.appendLog -/
noncomputable def c48 : Code := Try.f48.body.getD .skip
noncomputable def env48 : Env := mkEnv [(34, i34), (61, i61), (45, i45), (52, i52), (63, i63)]
abbrev ps48 : List PSh := [.ow (.ag (.pr (.ty (.st (.pr (.i .i64) (.pr (.i .i64) (.pr (.i .i64) (.pr (.i .i64) (.pr (.i .i64) (.pr (.i .i64) (.sl (.i .i64)))))))))) (.pr (.ty (.i .i64)) (.pr (.ow 2 (.st (.pr (.i .i64) .s))) (.ow 1 (.i .i64)))))), .d (.st (.pr (.i .i64) (.pr (.i .i64) (.pr (.i .i64) (.pr (.i .i64) (.pr (.i .i64) (.pr (.i .i64) (.pr (.i .i64) (.pr .b (.sl (.st (.pr (.i .i64) .s))))))))))))]
abbrev D48 : Type := pairD (.tup (.pr (.ty (.st (.pr (.st (.pr (.i .i64) (.pr (.i .i64) (.pr (.i .i64) (.pr (.i .i64) (.pr (.i .i64) (.pr (.i .i64) (.sl (.i .i64))))))))) (.pr (.i .i64) (.pr (.sl (.st (.pr (.i .i64) .s))) (.sl (.i .i64))))))) (.ty (.sl (.st (.pr (.i .i64) (.pr (.i .i64) (.pr (.i .i64) (.pr (.i .i64) (.pr (.i .i64) (.pr (.i .i64) (.pr (.i .i64) (.pr .b (.sl (.st (.pr (.i .i64) .s)))))))))))))))) (osOf ps48)
noncomputable def lv48 : Nat → Option (LI D48) := fun _ => none
noncomputable def g48 (a0_0_0 : Int) (a0_0_1 : Int) (a0_0_2 : Int) (a0_0_3 : Int) (a0_0_4 : Int) (a0_0_5 : Int) (a0_0_6 : List Int) (a0_1 : Int) (a0_2 : List (Int × List UInt8)) (a0_3 : List Int) (a1_0 : Int) (a1_1 : Int) (a1_2 : Int) (a1_3 : Int) (a1_4 : Int) (a1_5 : Int) (a1_6 : Int) (a1_7 : Bool) (a1_8 : List (Int × List UInt8)) : Option (((Int × Int × Int × Int × Int × Int × List Int) × Int × List (Int × List UInt8) × List Int) × List (Int × Int × Int × Int × Int × Int × Int × Bool × List (Int × List UInt8))) :=
  cond (decide (a1_3 < a0_0_2))
    (some ((((a0_0_0, a0_0_1, a0_0_2, a0_0_3, a0_0_4, a0_0_5, a0_0_6), a0_1, a0_2, a0_3), [(4, a0_0_0, a1_1, a0_0_2, 0, 0, 0, false, [])])))
    (cond (a1_3 == a0_0_2)
      (Option.bind (g34 a0_0_0 a0_0_1 a0_0_2 a0_0_3 a0_0_4 a0_0_5 a0_0_6 a0_1 a0_2 a0_3) fun v1 =>
      cond (v1)
        (some ((((a0_0_0, a0_0_1, a0_0_2, a0_0_3, a0_0_4, a0_0_5, a0_0_6), a0_1, a0_2, a0_3), [])))
        (Option.bind (g61 a0_0_0 a0_0_1 a0_0_2 a0_0_3 a0_0_4 a0_0_5 a0_0_6 a1_3) fun v2 =>
        Option.bind (g45 a0_0_0 a0_0_1 a0_0_2 a0_0_3 a0_0_4 a0_0_5 a0_0_6 a0_1 a0_2 a0_3 v2.1 v2.2.1 v2.2.2.1 0 v2.2.2.2.2.1 a1_1 []) fun v3 =>
        cond (decide (a1_4 > (↑(List.length v3.2.2.1) : Int)))
          (some ((v3, [(4, a0_0_0, a1_1, v2.2.2.1, 0, 0, 0, false, [])])))
          (Option.bind (g52 v3.2.2.1 a1_4) fun v4 =>
          cond (v4 != a1_5)
            (some ((v3, [(4, a0_0_0, a1_1, v2.2.2.1, 0, 0, 0, false, [])])))
            (cond (decide (IntKind.i64.wrap (a1_4 + (↑a1_8.length : Int)) > 4096))
              (some ((v3, [(4, a0_0_0, a1_1, v2.2.2.1, 0, 0, 0, false, [])])))
              (Option.bind (g63 v3.2.2.1 a1_0 a1_1 a1_2 a1_3 a1_4 a1_5 a1_6 a1_7 a1_8) fun v5 =>
              cond (v5.2)
                (cond (decide (IntKind.i64.wrap (a1_4 + v5.1) < v3.2.1))
                  (some ((v3, [(4, a0_0_0, a1_1, v2.2.2.1, 0, 0, 0, false, [])])))
                  (cond (v5.2)
                    (cond (decide (0 ≤ IntKind.i64.wrap (a1_4 + v5.1)) && decide (IntKind.i64.wrap (a1_4 + v5.1) ≤ (↑(List.length v3.2.2.1) : Int)) && true)
                      (cond (decide (0 ≤ v5.1) && decide (v5.1 ≤ (↑a1_8.length : Int)) && true)
                        (cond (decide ((IntKind.i64.wrap (a1_4 + v5.1)).toNat - 0 + (List.drop (Int.toNat v5.1) (List.take a1_8.length a1_8)).length ≤ 2147483647))
                          (some (((v3.1, if true = true then if (if false = true then if IntKind.i64.wrap (a1_4 + (↑a1_8.length : Int)) > a1_6 then IntKind.i64.wrap (a1_4 + (↑a1_8.length : Int)) else a1_6 else if IntKind.i64.wrap (a1_4 + (↑a1_8.length : Int)) < a1_6 then IntKind.i64.wrap (a1_4 + (↑a1_8.length : Int)) else a1_6) > v3.2.1 then if false = true then if IntKind.i64.wrap (a1_4 + (↑a1_8.length : Int)) > a1_6 then IntKind.i64.wrap (a1_4 + (↑a1_8.length : Int)) else a1_6 else if IntKind.i64.wrap (a1_4 + (↑a1_8.length : Int)) < a1_6 then IntKind.i64.wrap (a1_4 + (↑a1_8.length : Int)) else a1_6 else v3.2.1 else if (if false = true then if IntKind.i64.wrap (a1_4 + (↑a1_8.length : Int)) > a1_6 then IntKind.i64.wrap (a1_4 + (↑a1_8.length : Int)) else a1_6 else if IntKind.i64.wrap (a1_4 + (↑a1_8.length : Int)) < a1_6 then IntKind.i64.wrap (a1_4 + (↑a1_8.length : Int)) else a1_6) < v3.2.1 then if false = true then if IntKind.i64.wrap (a1_4 + (↑a1_8.length : Int)) > a1_6 then IntKind.i64.wrap (a1_4 + (↑a1_8.length : Int)) else a1_6 else if IntKind.i64.wrap (a1_4 + (↑a1_8.length : Int)) < a1_6 then IntKind.i64.wrap (a1_4 + (↑a1_8.length : Int)) else a1_6 else v3.2.1, List.take ((IntKind.i64.wrap (a1_4 + v5.1)).toNat - 0) (List.drop 0 v3.2.2.1) ++ List.drop (Int.toNat v5.1) (List.take a1_8.length a1_8), v3.2.2.2), [(4, a0_0_0, a1_1, v2.2.2.1, IntKind.i64.wrap (a1_4 + (↑a1_8.length : Int)), 0, 0, true, [])])))
                          (none))
                        (none))
                      (none))
                    (cond (decide (0 ≤ v5.1) && decide (v5.1 ≤ (↑a1_8.length : Int)) && true)
                      (cond (decide (List.length v3.2.2.1 + (List.drop (Int.toNat v5.1) (List.take a1_8.length a1_8)).length ≤ 2147483647))
                        (some (((v3.1, if true = true then if (if false = true then if IntKind.i64.wrap (a1_4 + (↑a1_8.length : Int)) > a1_6 then IntKind.i64.wrap (a1_4 + (↑a1_8.length : Int)) else a1_6 else if IntKind.i64.wrap (a1_4 + (↑a1_8.length : Int)) < a1_6 then IntKind.i64.wrap (a1_4 + (↑a1_8.length : Int)) else a1_6) > v3.2.1 then if false = true then if IntKind.i64.wrap (a1_4 + (↑a1_8.length : Int)) > a1_6 then IntKind.i64.wrap (a1_4 + (↑a1_8.length : Int)) else a1_6 else if IntKind.i64.wrap (a1_4 + (↑a1_8.length : Int)) < a1_6 then IntKind.i64.wrap (a1_4 + (↑a1_8.length : Int)) else a1_6 else v3.2.1 else if (if false = true then if IntKind.i64.wrap (a1_4 + (↑a1_8.length : Int)) > a1_6 then IntKind.i64.wrap (a1_4 + (↑a1_8.length : Int)) else a1_6 else if IntKind.i64.wrap (a1_4 + (↑a1_8.length : Int)) < a1_6 then IntKind.i64.wrap (a1_4 + (↑a1_8.length : Int)) else a1_6) < v3.2.1 then if false = true then if IntKind.i64.wrap (a1_4 + (↑a1_8.length : Int)) > a1_6 then IntKind.i64.wrap (a1_4 + (↑a1_8.length : Int)) else a1_6 else if IntKind.i64.wrap (a1_4 + (↑a1_8.length : Int)) < a1_6 then IntKind.i64.wrap (a1_4 + (↑a1_8.length : Int)) else a1_6 else v3.2.1, v3.2.2.1 ++ List.drop (Int.toNat v5.1) (List.take a1_8.length a1_8), v3.2.2.2), [(4, a0_0_0, a1_1, v2.2.2.1, IntKind.i64.wrap (a1_4 + (↑a1_8.length : Int)), 0, 0, true, [])])))
                        (none))
                      (none))))
                (cond (v5.2)
                  (cond (decide (0 ≤ IntKind.i64.wrap (a1_4 + v5.1)) && decide (IntKind.i64.wrap (a1_4 + v5.1) ≤ (↑(List.length v3.2.2.1) : Int)) && true)
                    (cond (decide (0 ≤ v5.1) && decide (v5.1 ≤ (↑a1_8.length : Int)) && true)
                      (cond (decide ((IntKind.i64.wrap (a1_4 + v5.1)).toNat - 0 + (List.drop (Int.toNat v5.1) (List.take a1_8.length a1_8)).length ≤ 2147483647))
                        (some (((v3.1, if true = true then if (if false = true then if IntKind.i64.wrap (a1_4 + (↑a1_8.length : Int)) > a1_6 then IntKind.i64.wrap (a1_4 + (↑a1_8.length : Int)) else a1_6 else if IntKind.i64.wrap (a1_4 + (↑a1_8.length : Int)) < a1_6 then IntKind.i64.wrap (a1_4 + (↑a1_8.length : Int)) else a1_6) > v3.2.1 then if false = true then if IntKind.i64.wrap (a1_4 + (↑a1_8.length : Int)) > a1_6 then IntKind.i64.wrap (a1_4 + (↑a1_8.length : Int)) else a1_6 else if IntKind.i64.wrap (a1_4 + (↑a1_8.length : Int)) < a1_6 then IntKind.i64.wrap (a1_4 + (↑a1_8.length : Int)) else a1_6 else v3.2.1 else if (if false = true then if IntKind.i64.wrap (a1_4 + (↑a1_8.length : Int)) > a1_6 then IntKind.i64.wrap (a1_4 + (↑a1_8.length : Int)) else a1_6 else if IntKind.i64.wrap (a1_4 + (↑a1_8.length : Int)) < a1_6 then IntKind.i64.wrap (a1_4 + (↑a1_8.length : Int)) else a1_6) < v3.2.1 then if false = true then if IntKind.i64.wrap (a1_4 + (↑a1_8.length : Int)) > a1_6 then IntKind.i64.wrap (a1_4 + (↑a1_8.length : Int)) else a1_6 else if IntKind.i64.wrap (a1_4 + (↑a1_8.length : Int)) < a1_6 then IntKind.i64.wrap (a1_4 + (↑a1_8.length : Int)) else a1_6 else v3.2.1, List.take ((IntKind.i64.wrap (a1_4 + v5.1)).toNat - 0) (List.drop 0 v3.2.2.1) ++ List.drop (Int.toNat v5.1) (List.take a1_8.length a1_8), v3.2.2.2), [(4, a0_0_0, a1_1, v2.2.2.1, IntKind.i64.wrap (a1_4 + (↑a1_8.length : Int)), 0, 0, true, [])])))
                        (none))
                      (none))
                    (none))
                  (cond (decide (0 ≤ v5.1) && decide (v5.1 ≤ (↑a1_8.length : Int)) && true)
                    (cond (decide (List.length v3.2.2.1 + (List.drop (Int.toNat v5.1) (List.take a1_8.length a1_8)).length ≤ 2147483647))
                      (some (((v3.1, if true = true then if (if false = true then if IntKind.i64.wrap (a1_4 + (↑a1_8.length : Int)) > a1_6 then IntKind.i64.wrap (a1_4 + (↑a1_8.length : Int)) else a1_6 else if IntKind.i64.wrap (a1_4 + (↑a1_8.length : Int)) < a1_6 then IntKind.i64.wrap (a1_4 + (↑a1_8.length : Int)) else a1_6) > v3.2.1 then if false = true then if IntKind.i64.wrap (a1_4 + (↑a1_8.length : Int)) > a1_6 then IntKind.i64.wrap (a1_4 + (↑a1_8.length : Int)) else a1_6 else if IntKind.i64.wrap (a1_4 + (↑a1_8.length : Int)) < a1_6 then IntKind.i64.wrap (a1_4 + (↑a1_8.length : Int)) else a1_6 else v3.2.1 else if (if false = true then if IntKind.i64.wrap (a1_4 + (↑a1_8.length : Int)) > a1_6 then IntKind.i64.wrap (a1_4 + (↑a1_8.length : Int)) else a1_6 else if IntKind.i64.wrap (a1_4 + (↑a1_8.length : Int)) < a1_6 then IntKind.i64.wrap (a1_4 + (↑a1_8.length : Int)) else a1_6) < v3.2.1 then if false = true then if IntKind.i64.wrap (a1_4 + (↑a1_8.length : Int)) > a1_6 then IntKind.i64.wrap (a1_4 + (↑a1_8.length : Int)) else a1_6 else if IntKind.i64.wrap (a1_4 + (↑a1_8.length : Int)) < a1_6 then IntKind.i64.wrap (a1_4 + (↑a1_8.length : Int)) else a1_6 else v3.2.1, v3.2.2.1 ++ List.drop (Int.toNat v5.1) (List.take a1_8.length a1_8), v3.2.2.2), [(4, a0_0_0, a1_1, v2.2.2.1, IntKind.i64.wrap (a1_4 + (↑a1_8.length : Int)), 0, 0, true, [])])))
                      (none))
                    (none))))))))
      (Option.bind (g61 a0_0_0 a0_0_1 a0_0_2 a0_0_3 a0_0_4 a0_0_5 a0_0_6 a1_3) fun v6 =>
      Option.bind (g45 a0_0_0 a0_0_1 a0_0_2 a0_0_3 a0_0_4 a0_0_5 a0_0_6 a0_1 a0_2 a0_3 v6.1 v6.2.1 v6.2.2.1 0 v6.2.2.2.2.1 a1_1 []) fun v7 =>
      cond (decide (a1_4 > (↑(List.length v7.2.2.1) : Int)))
        (some ((v7, [(4, a0_0_0, a1_1, v6.2.2.1, 0, 0, 0, false, [])])))
        (Option.bind (g52 v7.2.2.1 a1_4) fun v8 =>
        cond (v8 != a1_5)
          (some ((v7, [(4, a0_0_0, a1_1, v6.2.2.1, 0, 0, 0, false, [])])))
          (cond (decide (IntKind.i64.wrap (a1_4 + (↑a1_8.length : Int)) > 4096))
            (some ((v7, [(4, a0_0_0, a1_1, v6.2.2.1, 0, 0, 0, false, [])])))
            (Option.bind (g63 v7.2.2.1 a1_0 a1_1 a1_2 a1_3 a1_4 a1_5 a1_6 a1_7 a1_8) fun v9 =>
            cond (v9.2)
              (cond (decide (IntKind.i64.wrap (a1_4 + v9.1) < v7.2.1))
                (some ((v7, [(4, a0_0_0, a1_1, v6.2.2.1, 0, 0, 0, false, [])])))
                (cond (v9.2)
                  (cond (decide (0 ≤ IntKind.i64.wrap (a1_4 + v9.1)) && decide (IntKind.i64.wrap (a1_4 + v9.1) ≤ (↑(List.length v7.2.2.1) : Int)) && true)
                    (cond (decide (0 ≤ v9.1) && decide (v9.1 ≤ (↑a1_8.length : Int)) && true)
                      (cond (decide ((IntKind.i64.wrap (a1_4 + v9.1)).toNat - 0 + (List.drop (Int.toNat v9.1) (List.take a1_8.length a1_8)).length ≤ 2147483647))
                        (some (((v7.1, if true = true then if (if false = true then if IntKind.i64.wrap (a1_4 + (↑a1_8.length : Int)) > a1_6 then IntKind.i64.wrap (a1_4 + (↑a1_8.length : Int)) else a1_6 else if IntKind.i64.wrap (a1_4 + (↑a1_8.length : Int)) < a1_6 then IntKind.i64.wrap (a1_4 + (↑a1_8.length : Int)) else a1_6) > v7.2.1 then if false = true then if IntKind.i64.wrap (a1_4 + (↑a1_8.length : Int)) > a1_6 then IntKind.i64.wrap (a1_4 + (↑a1_8.length : Int)) else a1_6 else if IntKind.i64.wrap (a1_4 + (↑a1_8.length : Int)) < a1_6 then IntKind.i64.wrap (a1_4 + (↑a1_8.length : Int)) else a1_6 else v7.2.1 else if (if false = true then if IntKind.i64.wrap (a1_4 + (↑a1_8.length : Int)) > a1_6 then IntKind.i64.wrap (a1_4 + (↑a1_8.length : Int)) else a1_6 else if IntKind.i64.wrap (a1_4 + (↑a1_8.length : Int)) < a1_6 then IntKind.i64.wrap (a1_4 + (↑a1_8.length : Int)) else a1_6) < v7.2.1 then if false = true then if IntKind.i64.wrap (a1_4 + (↑a1_8.length : Int)) > a1_6 then IntKind.i64.wrap (a1_4 + (↑a1_8.length : Int)) else a1_6 else if IntKind.i64.wrap (a1_4 + (↑a1_8.length : Int)) < a1_6 then IntKind.i64.wrap (a1_4 + (↑a1_8.length : Int)) else a1_6 else v7.2.1, List.take ((IntKind.i64.wrap (a1_4 + v9.1)).toNat - 0) (List.drop 0 v7.2.2.1) ++ List.drop (Int.toNat v9.1) (List.take a1_8.length a1_8), v7.2.2.2), [(4, a0_0_0, a1_1, v6.2.2.1, IntKind.i64.wrap (a1_4 + (↑a1_8.length : Int)), 0, 0, true, [])])))
                        (none))
                      (none))
                    (none))
                  (cond (decide (0 ≤ v9.1) && decide (v9.1 ≤ (↑a1_8.length : Int)) && true)
                    (cond (decide (List.length v7.2.2.1 + (List.drop (Int.toNat v9.1) (List.take a1_8.length a1_8)).length ≤ 2147483647))
                      (some (((v7.1, if true = true then if (if false = true then if IntKind.i64.wrap (a1_4 + (↑a1_8.length : Int)) > a1_6 then IntKind.i64.wrap (a1_4 + (↑a1_8.length : Int)) else a1_6 else if IntKind.i64.wrap (a1_4 + (↑a1_8.length : Int)) < a1_6 then IntKind.i64.wrap (a1_4 + (↑a1_8.length : Int)) else a1_6) > v7.2.1 then if false = true then if IntKind.i64.wrap (a1_4 + (↑a1_8.length : Int)) > a1_6 then IntKind.i64.wrap (a1_4 + (↑a1_8.length : Int)) else a1_6 else if IntKind.i64.wrap (a1_4 + (↑a1_8.length : Int)) < a1_6 then IntKind.i64.wrap (a1_4 + (↑a1_8.length : Int)) else a1_6 else v7.2.1 else if (if false = true then if IntKind.i64.wrap (a1_4 + (↑a1_8.length : Int)) > a1_6 then IntKind.i64.wrap (a1_4 + (↑a1_8.length : Int)) else a1_6 else if IntKind.i64.wrap (a1_4 + (↑a1_8.length : Int)) < a1_6 then IntKind.i64.wrap (a1_4 + (↑a1_8.length : Int)) else a1_6) < v7.2.1 then if false = true then if IntKind.i64.wrap (a1_4 + (↑a1_8.length : Int)) > a1_6 then IntKind.i64.wrap (a1_4 + (↑a1_8.length : Int)) else a1_6 else if IntKind.i64.wrap (a1_4 + (↑a1_8.length : Int)) < a1_6 then IntKind.i64.wrap (a1_4 + (↑a1_8.length : Int)) else a1_6 else v7.2.1, v7.2.2.1 ++ List.drop (Int.toNat v9.1) (List.take a1_8.length a1_8), v7.2.2.2), [(4, a0_0_0, a1_1, v6.2.2.1, IntKind.i64.wrap (a1_4 + (↑a1_8.length : Int)), 0, 0, true, [])])))
                      (none))
                    (none))))
              (cond (v9.2)
                (cond (decide (0 ≤ IntKind.i64.wrap (a1_4 + v9.1)) && decide (IntKind.i64.wrap (a1_4 + v9.1) ≤ (↑(List.length v7.2.2.1) : Int)) && true)
                  (cond (decide (0 ≤ v9.1) && decide (v9.1 ≤ (↑a1_8.length : Int)) && true)
                    (cond (decide ((IntKind.i64.wrap (a1_4 + v9.1)).toNat - 0 + (List.drop (Int.toNat v9.1) (List.take a1_8.length a1_8)).length ≤ 2147483647))
                      (some (((v7.1, if true = true then if (if false = true then if IntKind.i64.wrap (a1_4 + (↑a1_8.length : Int)) > a1_6 then IntKind.i64.wrap (a1_4 + (↑a1_8.length : Int)) else a1_6 else if IntKind.i64.wrap (a1_4 + (↑a1_8.length : Int)) < a1_6 then IntKind.i64.wrap (a1_4 + (↑a1_8.length : Int)) else a1_6) > v7.2.1 then if false = true then if IntKind.i64.wrap (a1_4 + (↑a1_8.length : Int)) > a1_6 then IntKind.i64.wrap (a1_4 + (↑a1_8.length : Int)) else a1_6 else if IntKind.i64.wrap (a1_4 + (↑a1_8.length : Int)) < a1_6 then IntKind.i64.wrap (a1_4 + (↑a1_8.length : Int)) else a1_6 else v7.2.1 else if (if false = true then if IntKind.i64.wrap (a1_4 + (↑a1_8.length : Int)) > a1_6 then IntKind.i64.wrap (a1_4 + (↑a1_8.length : Int)) else a1_6 else if IntKind.i64.wrap (a1_4 + (↑a1_8.length : Int)) < a1_6 then IntKind.i64.wrap (a1_4 + (↑a1_8.length : Int)) else a1_6) < v7.2.1 then if false = true then if IntKind.i64.wrap (a1_4 + (↑a1_8.length : Int)) > a1_6 then IntKind.i64.wrap (a1_4 + (↑a1_8.length : Int)) else a1_6 else if IntKind.i64.wrap (a1_4 + (↑a1_8.length : Int)) < a1_6 then IntKind.i64.wrap (a1_4 + (↑a1_8.length : Int)) else a1_6 else v7.2.1, List.take ((IntKind.i64.wrap (a1_4 + v9.1)).toNat - 0) (List.drop 0 v7.2.2.1) ++ List.drop (Int.toNat v9.1) (List.take a1_8.length a1_8), v7.2.2.2), [(4, a0_0_0, a1_1, v6.2.2.1, IntKind.i64.wrap (a1_4 + (↑a1_8.length : Int)), 0, 0, true, [])])))
                      (none))
                    (none))
                  (none))
                (cond (decide (0 ≤ v9.1) && decide (v9.1 ≤ (↑a1_8.length : Int)) && true)
                  (cond (decide (List.length v7.2.2.1 + (List.drop (Int.toNat v9.1) (List.take a1_8.length a1_8)).length ≤ 2147483647))
                    (some (((v7.1, if true = true then if (if false = true then if IntKind.i64.wrap (a1_4 + (↑a1_8.length : Int)) > a1_6 then IntKind.i64.wrap (a1_4 + (↑a1_8.length : Int)) else a1_6 else if IntKind.i64.wrap (a1_4 + (↑a1_8.length : Int)) < a1_6 then IntKind.i64.wrap (a1_4 + (↑a1_8.length : Int)) else a1_6) > v7.2.1 then if false = true then if IntKind.i64.wrap (a1_4 + (↑a1_8.length : Int)) > a1_6 then IntKind.i64.wrap (a1_4 + (↑a1_8.length : Int)) else a1_6 else if IntKind.i64.wrap (a1_4 + (↑a1_8.length : Int)) < a1_6 then IntKind.i64.wrap (a1_4 + (↑a1_8.length : Int)) else a1_6 else v7.2.1 else if (if false = true then if IntKind.i64.wrap (a1_4 + (↑a1_8.length : Int)) > a1_6 then IntKind.i64.wrap (a1_4 + (↑a1_8.length : Int)) else a1_6 else if IntKind.i64.wrap (a1_4 + (↑a1_8.length : Int)) < a1_6 then IntKind.i64.wrap (a1_4 + (↑a1_8.length : Int)) else a1_6) < v7.2.1 then if false = true then if IntKind.i64.wrap (a1_4 + (↑a1_8.length : Int)) > a1_6 then IntKind.i64.wrap (a1_4 + (↑a1_8.length : Int)) else a1_6 else if IntKind.i64.wrap (a1_4 + (↑a1_8.length : Int)) < a1_6 then IntKind.i64.wrap (a1_4 + (↑a1_8.length : Int)) else a1_6 else v7.2.1, v7.2.2.1 ++ List.drop (Int.toNat v9.1) (List.take a1_8.length a1_8), v7.2.2.2), [(4, a0_0_0, a1_1, v6.2.2.1, IntKind.i64.wrap (a1_4 + (↑a1_8.length : Int)), 0, 0, true, [])])))
                    (none))
                  (none))))))))
noncomputable def i48 : FI := ⟨ps48, .tup (.pr (.ty (.st (.pr (.st (.pr (.i .i64) (.pr (.i .i64) (.pr (.i .i64) (.pr (.i .i64) (.pr (.i .i64) (.pr (.i .i64) (.sl (.i .i64))))))))) (.pr (.i .i64) (.pr (.sl (.st (.pr (.i .i64) .s))) (.sl (.i .i64))))))) (.ty (.sl (.st (.pr (.i .i64) (.pr (.i .i64) (.pr (.i .i64) (.pr (.i .i64) (.pr (.i .i64) (.pr (.i .i64) (.pr (.i .i64) (.pr .b (.sl (.st (.pr (.i .i64) .s))))))))))))))), fun (((a0_0_0, a0_0_1, a0_0_2, a0_0_3, a0_0_4, a0_0_5, a0_0_6), a0_1, a0_2, a0_3), (a1_0, a1_1, a1_2, a1_3, a1_4, a1_5, a1_6, a1_7, a1_8)) => g48 a0_0_0 a0_0_1 a0_0_2 a0_0_3 a0_0_4 a0_0_5 a0_0_6 a0_1 a0_2 a0_3 a1_0 a1_1 a1_2 a1_3 a1_4 a1_5 a1_6 a1_7 a1_8⟩
theorem e48 : (fun a => i48.G a) = fnEval T Y env48 an i48.ps i48.rs true Try.f48.results.toList lv48 c48 := by kernel_rfl
theorem lo48 : loopsOf c48 = [] := by kernel_rfl
theorem ll48 : LoopsOk T Y env48 an lv48 (finO T true ps48 (.tup (.pr (.ty (.st (.pr (.st (.pr (.i .i64) (.pr (.i .i64) (.pr (.i .i64) (.pr (.i .i64) (.pr (.i .i64) (.pr (.i .i64) (.sl (.i .i64))))))))) (.pr (.i .i64) (.pr (.sl (.st (.pr (.i .i64) .s))) (.sl (.i .i64))))))) (.ty (.sl (.st (.pr (.i .i64) (.pr (.i .i64) (.pr (.i .i64) (.pr (.i .i64) (.pr (.i .i64) (.pr (.i .i64) (.pr (.i .i64) (.pr .b (.sl (.st (.pr (.i .i64) .s)))))))))))))))) Try.f48.results.toList) c48 := loopsOk_of (by rw [lo48]; exact trivial)
theorem k48 : FnOk Try.prog 48 i48 :=
  fn_ok (T := T) (Y := Y) (an := an) (env := env48) (fr := true) (lenv := lv48) mixed tok.1 tok.2 (envCons k34 (envCons k61 (envCons k45 (envCons k52 (envCons k63 (envNil)))))) (fn := Try.f48) (c := c48) (by kernel_rfl) (by kernel_rfl) (by kernel_rfl) ll48 (fun a => congrFun e48 a)
/-! ### broker/replica.Timeout -/
noncomputable def c15 : Code := Try.f15.body.getD .skip
noncomputable def env15 : Env := mkEnv [(39, i39), (34, i34), (41, i41), (40, i40), (42, i42)]
abbrev ps15 : List PSh := [.d (.st (.pr (.st (.pr (.i .i64) (.pr (.i .i64) (.pr (.i .i64) (.pr (.i .i64) (.pr (.i .i64) (.pr (.i .i64) (.sl (.i .i64))))))))) (.pr (.i .i64) (.pr (.sl (.st (.pr (.i .i64) .s))) (.sl (.i .i64))))))]
abbrev D15 : Type := pairD (.tup (.pr (.ty (.st (.pr (.st (.pr (.i .i64) (.pr (.i .i64) (.pr (.i .i64) (.pr (.i .i64) (.pr (.i .i64) (.pr (.i .i64) (.sl (.i .i64))))))))) (.pr (.i .i64) (.pr (.sl (.st (.pr (.i .i64) .s))) (.sl (.i .i64))))))) (.ty (.sl (.st (.pr (.i .i64) (.pr (.i .i64) (.pr (.i .i64) (.pr (.i .i64) (.pr (.i .i64) (.pr (.i .i64) (.pr (.i .i64) (.pr .b (.sl (.st (.pr (.i .i64) .s)))))))))))))))) (osOf ps15)
noncomputable def lv15 : Nat → Option (LI D15) := fun _ => none
noncomputable def g15 (a0_0_0 : Int) (a0_0_1 : Int) (a0_0_2 : Int) (a0_0_3 : Int) (a0_0_4 : Int) (a0_0_5 : Int) (a0_0_6 : List Int) (a0_1 : Int) (a0_2 : List (Int × List UInt8)) (a0_3 : List Int) : Option (((Int × Int × Int × Int × Int × Int × List Int) × Int × List (Int × List UInt8) × List Int) × List (Int × Int × Int × Int × Int × Int × Int × Bool × List (Int × List UInt8))) :=
  Option.bind (g39 a0_0_0 a0_0_1 a0_0_2 a0_0_3 a0_0_4 a0_0_5 a0_0_6 a0_1 a0_2 a0_3) fun v1 =>
  Option.bind (g34 a0_0_0 a0_0_1 a0_0_2 a0_0_3 a0_0_4 a0_0_5 a0_0_6 a0_1 a0_2 a0_3) fun v2 =>
  cond (v2)
    (some ((v1, [])))
    (Option.bind (g41 a0_2) fun v3 =>
    Option.bind (g40 a0_0_0 a0_0_1 a0_0_2 a0_0_3 a0_0_4 a0_0_5 a0_0_6 (↑a0_2.length : Int) v3) fun v4 =>
    Option.bind (g34 v4.1.1 v4.1.2.1 v4.1.2.2.1 v4.1.2.2.2.1 v4.1.2.2.2.2.1 v4.1.2.2.2.2.2.1 v4.1.2.2.2.2.2.2 v1.2.1 v1.2.2.1 v1.2.2.2) fun v5 =>
    cond (v5)
      (Option.bind (g42 v4.1.1 v4.1.2.1 v4.1.2.2.1 v4.1.2.2.2.1 v4.1.2.2.2.2.1 v4.1.2.2.2.2.2.1 v4.1.2.2.2.2.2.2 v1.2.1 v1.2.2.1 v1.2.2.2) fun v6 =>
      some ((v6, v4.2)))
      (some (((v4.1, v1.2), v4.2))))
noncomputable def i15 : FI := ⟨ps15, .tup (.pr (.ty (.st (.pr (.st (.pr (.i .i64) (.pr (.i .i64) (.pr (.i .i64) (.pr (.i .i64) (.pr (.i .i64) (.pr (.i .i64) (.sl (.i .i64))))))))) (.pr (.i .i64) (.pr (.sl (.st (.pr (.i .i64) .s))) (.sl (.i .i64))))))) (.ty (.sl (.st (.pr (.i .i64) (.pr (.i .i64) (.pr (.i .i64) (.pr (.i .i64) (.pr (.i .i64) (.pr (.i .i64) (.pr (.i .i64) (.pr .b (.sl (.st (.pr (.i .i64) .s))))))))))))))), fun ((a0_0_0, a0_0_1, a0_0_2, a0_0_3, a0_0_4, a0_0_5, a0_0_6), a0_1, a0_2, a0_3) => g15 a0_0_0 a0_0_1 a0_0_2 a0_0_3 a0_0_4 a0_0_5 a0_0_6 a0_1 a0_2 a0_3⟩
theorem e15 : (fun a => i15.G a) = fnEval T Y env15 an i15.ps i15.rs true Try.f15.results.toList lv15 c15 := by kernel_rfl
theorem lo15 : loopsOf c15 = [] := by kernel_rfl
theorem ll15 : LoopsOk T Y env15 an lv15 (finO T true ps15 (.tup (.pr (.ty (.st (.pr (.st (.pr (.i .i64) (.pr (.i .i64) (.pr (.i .i64) (.pr (.i .i64) (.pr (.i .i64) (.pr (.i .i64) (.sl (.i .i64))))))))) (.pr (.i .i64) (.pr (.sl (.st (.pr (.i .i64) .s))) (.sl (.i .i64))))))) (.ty (.sl (.st (.pr (.i .i64) (.pr (.i .i64) (.pr (.i .i64) (.pr (.i .i64) (.pr (.i .i64) (.pr (.i .i64) (.pr (.i .i64) (.pr .b (.sl (.st (.pr (.i .i64) .s)))))))))))))))) Try.f15.results.toList) c15 := loopsOk_of (by rw [lo15]; exact trivial)
theorem k15 : FnOk Try.prog 15 i15 :=
  fn_ok (T := T) (Y := Y) (an := an) (env := env15) (fr := true) (lenv := lv15) mixed tok.1 tok.2 (envCons k39 (envCons k34 (envCons k41 (envCons k40 (envCons k42 (envNil)))))) (fn := Try.f15) (c := c15) (by kernel_rfl) (by kernel_rfl) (by kernel_rfl) ll15 (fun a => congrFun e15 a)
/-! ### broker/replica.Beat -/
noncomputable def c24 : Code := Try.f24.body.getD .skip
noncomputable def env24 : Env := mkEnv [(34, i34), (52, i52), (51, i51000)]
abbrev ps24 : List PSh := [.d (.st (.pr (.st (.pr (.i .i64) (.pr (.i .i64) (.pr (.i .i64) (.pr (.i .i64) (.pr (.i .i64) (.pr (.i .i64) (.sl (.i .i64))))))))) (.pr (.i .i64) (.pr (.sl (.st (.pr (.i .i64) .s))) (.sl (.i .i64))))))]
abbrev D24 : Type := pairD (.ty (.sl (.st (.pr (.i .i64) (.pr (.i .i64) (.pr (.i .i64) (.pr (.i .i64) (.pr (.i .i64) (.pr (.i .i64) (.pr (.i .i64) (.pr .b (.sl (.st (.pr (.i .i64) .s)))))))))))))) (osOf ps24)
def ns24_0 : NS := { slots := [(1, .pt 1 []), (3, .hw 55), (12, .ty (.i .i64)), (13, .ty (.i .i64))], roots := [(55, .ar 9 (.st (.pr (.i .i64) (.pr (.i .i64) (.pr (.i .i64) (.pr (.i .i64) (.pr (.i .i64) (.pr (.i .i64) (.pr (.i .i64) (.pr .b (.sl (.st (.pr (.i .i64) .s))))))))))))), (1, .ty (.st (.pr (.st (.pr (.i .i64) (.pr (.i .i64) (.pr (.i .i64) (.pr (.i .i64) (.pr (.i .i64) (.pr (.i .i64) (.sl (.i .i64))))))))) (.pr (.i .i64) (.pr (.sl (.st (.pr (.i .i64) .s))) (.sl (.i .i64)))))))], ad := [{ t := 3, path := [], g := 55, d := 9, τ := (.st (.pr (.i .i64) (.pr (.i .i64) (.pr (.i .i64) (.pr (.i .i64) (.pr (.i .i64) (.pr (.i .i64) (.pr (.i .i64) (.pr .b (.sl (.st (.pr (.i .i64) .s))))))))))) : Ty) }] }
def ex24_0 : List (Nat × NS) := [(0, { slots := [(3, .hw 55)], roots := [(55, .ar 9 (.st (.pr (.i .i64) (.pr (.i .i64) (.pr (.i .i64) (.pr (.i .i64) (.pr (.i .i64) (.pr (.i .i64) (.pr (.i .i64) (.pr .b (.sl (.st (.pr (.i .i64) .s)))))))))))))] })]
noncomputable def st24_0 (ih : ((Int × Int) × ((List (Int × Int × Int × Int × Int × Int × Int × Bool × List (Int × List UInt8))) × (Int × Int × Int × Int × Int × Int × List Int) × Int × List (Int × List UInt8) × List Int)) → Option (((Unit) × (List (Int × Int × Int × Int × Int × Int × Int × Bool × List (Int × List UInt8)))) ⊕ ((List (Int × Int × Int × Int × Int × Int × Int × Bool × List (Int × List UInt8)))))) : ((Int × Int) × ((List (Int × Int × Int × Int × Int × Int × Int × Bool × List (Int × List UInt8))) × (Int × Int × Int × Int × Int × Int × List Int) × Int × List (Int × List UInt8) × List Int)) → Option (((Unit) × (List (Int × Int × Int × Int × Int × Int × Int × Bool × List (Int × List UInt8)))) ⊕ ((List (Int × Int × Int × Int × Int × Int × Int × Bool × List (Int × List UInt8))))) := fun ((t12, t13), (r55, ((r1_0_0, r1_0_1, r1_0_2, r1_0_3, r1_0_4, r1_0_5, r1_0_6), r1_1, r1_2, r1_3))) =>
  cond (decide (t13 < t12))
    (cond (t13 == r1_0_0)
      (ih ((t12, IntKind.i64.wrap (t13 + 1)), r55, (r1_0_0, r1_0_1, r1_0_2, r1_0_3, r1_0_4, r1_0_5, r1_0_6), r1_1, r1_2, r1_3))
      (cond (decide (0 ≤ t13) && decide (t13 < (↑r1_3.length : Int)))
        (Option.bind (g52 r1_2 (r1_3.getD t13.toNat 0)) fun v1 =>
        cond (decide (0 ≤ if false = true then if (↑r1_2.length : Int) > IntKind.i64.wrap (r1_3.getD t13.toNat 0 + 32) then (↑r1_2.length : Int) else IntKind.i64.wrap (r1_3.getD t13.toNat 0 + 32) else if (↑r1_2.length : Int) < IntKind.i64.wrap (r1_3.getD t13.toNat 0 + 32) then (↑r1_2.length : Int) else IntKind.i64.wrap (r1_3.getD t13.toNat 0 + 32)) && decide ((if false = true then if (↑r1_2.length : Int) > IntKind.i64.wrap (r1_3.getD t13.toNat 0 + 32) then (↑r1_2.length : Int) else IntKind.i64.wrap (r1_3.getD t13.toNat 0 + 32) else if (↑r1_2.length : Int) < IntKind.i64.wrap (r1_3.getD t13.toNat 0 + 32) then (↑r1_2.length : Int) else IntKind.i64.wrap (r1_3.getD t13.toNat 0 + 32)) ≤ (↑r1_2.length : Int)) && (decide (0 ≤ r1_3.getD t13.toNat 0) && decide (r1_3.getD t13.toNat 0 ≤ if false = true then if (↑r1_2.length : Int) > IntKind.i64.wrap (r1_3.getD t13.toNat 0 + 32) then (↑r1_2.length : Int) else IntKind.i64.wrap (r1_3.getD t13.toNat 0 + 32) else if (↑r1_2.length : Int) < IntKind.i64.wrap (r1_3.getD t13.toNat 0 + 32) then (↑r1_2.length : Int) else IntKind.i64.wrap (r1_3.getD t13.toNat 0 + 32))) && true)
          (Option.bind (g51000 (List.drop (r1_3.getD t13.toNat 0).toNat (List.take (if false = true then if (↑r1_2.length : Int) > IntKind.i64.wrap (r1_3.getD t13.toNat 0 + 32) then (↑r1_2.length : Int) else IntKind.i64.wrap (r1_3.getD t13.toNat 0 + 32) else if (↑r1_2.length : Int) < IntKind.i64.wrap (r1_3.getD t13.toNat 0 + 32) then (↑r1_2.length : Int) else IntKind.i64.wrap (r1_3.getD t13.toNat 0 + 32)).toNat r1_2))) fun v2 =>
          cond (decide (r55.length + 1 ≤ 2147483647))
            (ih ((t12, IntKind.i64.wrap (t13 + 1)), r55 ++ [(3, r1_0_0, t13, r1_0_2, r1_3.getD t13.toNat 0, v1, r1_1, false, v2)], (r1_0_0, r1_0_1, r1_0_2, r1_0_3, r1_0_4, r1_0_5, r1_0_6), r1_1, r1_2, r1_3))
            (none))
          (none))
        (none)))
    (some (Sum.inl ((), r55)))
noncomputable def h24_0 : ((Int × Int) × ((List (Int × Int × Int × Int × Int × Int × Int × Bool × List (Int × List UInt8))) × (Int × Int × Int × Int × Int × Int × List Int) × Int × List (Int × List UInt8) × List Int)) → Option (((Unit) × (List (Int × Int × Int × Int × Int × Int × Int × Bool × List (Int × List UInt8)))) ⊕ ((List (Int × Int × Int × Int × Int × Int × Int × Bool × List (Int × List UInt8))))) := loopN st24_0 fuel
noncomputable def l24_0 : LI D24 := ⟨ns24_0, ex24_0, h24_0⟩
noncomputable def lv24 : Nat → Option (LI D24) := fun q => if q = 5 then some l24_0 else (fun _ => none) q
noncomputable def g24 (a0_0_0 : Int) (a0_0_1 : Int) (a0_0_2 : Int) (a0_0_3 : Int) (a0_0_4 : Int) (a0_0_5 : Int) (a0_0_6 : List Int) (a0_1 : Int) (a0_2 : List (Int × List UInt8)) (a0_3 : List Int) : Option (List (Int × Int × Int × Int × Int × Int × Int × Bool × List (Int × List UInt8))) :=
  Option.bind (g34 a0_0_0 a0_0_1 a0_0_2 a0_0_3 a0_0_4 a0_0_5 a0_0_6 a0_1 a0_2 a0_3) fun v1 =>
  cond (!v1)
    (some ([]))
    (Option.bind (h24_0 ((a0_0_1, 0), [], (a0_0_0, a0_0_1, a0_0_2, a0_0_3, a0_0_4, a0_0_5, a0_0_6), a0_1, a0_2, a0_3)) fun v2 =>
    match v2 with
    | .inl x3 =>
      some (x3.2)
    | .inr x3 =>
      some (x3))
noncomputable def i24 : FI := ⟨ps24, .ty (.sl (.st (.pr (.i .i64) (.pr (.i .i64) (.pr (.i .i64) (.pr (.i .i64) (.pr (.i .i64) (.pr (.i .i64) (.pr (.i .i64) (.pr .b (.sl (.st (.pr (.i .i64) .s))))))))))))), fun ((a0_0_0, a0_0_1, a0_0_2, a0_0_3, a0_0_4, a0_0_5, a0_0_6), a0_1, a0_2, a0_3) => g24 a0_0_0 a0_0_1 a0_0_2 a0_0_3 a0_0_4 a0_0_5 a0_0_6 a0_1 a0_2 a0_3⟩
theorem s24_0 : st24_0 = stepEval T Y env24 an lv24 (finO T true ps24 (.ty (.sl (.st (.pr (.i .i64) (.pr (.i .i64) (.pr (.i .i64) (.pr (.i .i64) (.pr (.i .i64) (.pr (.i .i64) (.pr (.i .i64) (.pr .b (.sl (.st (.pr (.i .i64) .s)))))))))))))) Try.f24.results.toList) (loopAt c24 0) ns24_0 ex24_0 := by kernel_rfl
theorem e24 : (fun a => i24.G a) = fnEval T Y env24 an i24.ps i24.rs true Try.f24.results.toList lv24 c24 := by kernel_rfl
theorem lo24 : loopsOf c24 = [loopAt c24 0] := by kernel_rfl
theorem ll24 : LoopsOk T Y env24 an lv24 (finO T true ps24 (.ty (.sl (.st (.pr (.i .i64) (.pr (.i .i64) (.pr (.i .i64) (.pr (.i .i64) (.pr (.i .i64) (.pr (.i .i64) (.pr (.i .i64) (.pr .b (.sl (.st (.pr (.i .i64) .s)))))))))))))) Try.f24.results.toList) c24 := loopsOk_of (by rw [lo24]; exact ⟨loop1 (li := l24_0) (by kernel_rfl) (by kernel_rfl) s24_0, trivial⟩)
theorem k24 : FnOk Try.prog 24 i24 :=
  fn_ok (T := T) (Y := Y) (an := an) (env := env24) (fr := true) (lenv := lv24) mixed tok.1 tok.2 (envCons k34 (envCons k52 (envCons k51000 (envNil)))) (fn := Try.f24) (c := c24) (by kernel_rfl) (by kernel_rfl) (by kernel_rfl) ll24 (fun a => congrFun e24 a)
/-! ### broker/replica.Receive -/
noncomputable def c16 : Code := Try.f16.body.getD .skip
noncomputable def env16 : Env := mkEnv [(39, i39), (43, i43), (41, i41), (44, i44), (45, i45), (46, i46), (34, i34), (42, i42), (24, i24), (47, i47), (48, i48), (49, i49)]
abbrev ps16 : List PSh := [.d (.st (.pr (.st (.pr (.i .i64) (.pr (.i .i64) (.pr (.i .i64) (.pr (.i .i64) (.pr (.i .i64) (.pr (.i .i64) (.sl (.i .i64))))))))) (.pr (.i .i64) (.pr (.sl (.st (.pr (.i .i64) .s))) (.sl (.i .i64)))))), .d (.st (.pr (.i .i64) (.pr (.i .i64) (.pr (.i .i64) (.pr (.i .i64) (.pr (.i .i64) (.pr (.i .i64) (.pr (.i .i64) (.pr .b (.sl (.st (.pr (.i .i64) .s))))))))))))]
abbrev D16 : Type := pairD (.tup (.pr (.ty (.st (.pr (.st (.pr (.i .i64) (.pr (.i .i64) (.pr (.i .i64) (.pr (.i .i64) (.pr (.i .i64) (.pr (.i .i64) (.sl (.i .i64))))))))) (.pr (.i .i64) (.pr (.sl (.st (.pr (.i .i64) .s))) (.sl (.i .i64))))))) (.ty (.sl (.st (.pr (.i .i64) (.pr (.i .i64) (.pr (.i .i64) (.pr (.i .i64) (.pr (.i .i64) (.pr (.i .i64) (.pr (.i .i64) (.pr .b (.sl (.st (.pr (.i .i64) .s)))))))))))))))) (osOf ps16)
noncomputable def lv16 : Nat → Option (LI D16) := fun _ => none
noncomputable def g16 (a0_0_0 : Int) (a0_0_1 : Int) (a0_0_2 : Int) (a0_0_3 : Int) (a0_0_4 : Int) (a0_0_5 : Int) (a0_0_6 : List Int) (a0_1 : Int) (a0_2 : List (Int × List UInt8)) (a0_3 : List Int) (a1_0 : Int) (a1_1 : Int) (a1_2 : Int) (a1_3 : Int) (a1_4 : Int) (a1_5 : Int) (a1_6 : Int) (a1_7 : Bool) (a1_8 : List (Int × List UInt8)) : Option (((Int × Int × Int × Int × Int × Int × List Int) × Int × List (Int × List UInt8) × List Int) × List (Int × Int × Int × Int × Int × Int × Int × Bool × List (Int × List UInt8))) :=
  Option.bind (g39 a0_0_0 a0_0_1 a0_0_2 a0_0_3 a0_0_4 a0_0_5 a0_0_6 a0_1 a0_2 a0_3) fun v1 =>
  Option.bind (g43 a0_0_0 a0_0_1 a0_0_2 a0_0_3 a0_0_4 a0_0_5 a0_0_6 a1_0 a1_1 a1_2 a1_3 a1_4 a1_5 a1_6 a1_7 a1_8) fun v2 =>
  cond (!v2)
    (some ((v1, [])))
    (cond (a1_0 == 1)
      (Option.bind (g41 a0_2) fun v3 =>
      Option.bind (g44 a0_0_0 a0_0_1 a0_0_2 a0_0_3 a0_0_4 a0_0_5 a0_0_6 a1_0 a1_1 a1_2 a1_3 a1_4 a1_5 a1_6 a1_7 a1_8 (↑a0_2.length : Int) v3) fun v4 =>
      Option.bind (g45 v1.1.1 v1.1.2.1 v1.1.2.2.1 v1.1.2.2.2.1 v1.1.2.2.2.2.1 v1.1.2.2.2.2.2.1 v1.1.2.2.2.2.2.2 v1.2.1 v1.2.2.1 v1.2.2.2 v4.1.1 v4.1.2.1 v4.1.2.2.1 v4.1.2.2.2.1 v4.1.2.2.2.2.1 v4.1.2.2.2.2.2.1 v4.1.2.2.2.2.2.2) fun v5 =>
      some ((v5, [v4.2])))
      (cond (a1_0 == 2)
        (Option.bind (g46 a0_0_0 a0_0_1 a0_0_2 a0_0_3 a0_0_4 a0_0_5 a0_0_6 a1_0 a1_1 a1_2 a1_3 a1_4 a1_5 a1_6 a1_7 a1_8) fun v6 =>
        Option.bind (g45 v1.1.1 v1.1.2.1 v1.1.2.2.1 v1.1.2.2.2.1 v1.1.2.2.2.2.1 v1.1.2.2.2.2.2.1 v1.1.2.2.2.2.2.2 v1.2.1 v1.2.2.1 v1.2.2.2 v6.1 v6.2.1 v6.2.2.1 v6.2.2.2.1 v6.2.2.2.2.1 v6.2.2.2.2.2.1 v6.2.2.2.2.2.2) fun v7 =>
        Option.bind (g34 a0_0_0 a0_0_1 a0_0_2 a0_0_3 a0_0_4 a0_0_5 a0_0_6 a0_1 a0_2 a0_3) fun v8 =>
        cond (!v8)
          (Option.bind (g34 v7.1.1 v7.1.2.1 v7.1.2.2.1 v7.1.2.2.2.1 v7.1.2.2.2.2.1 v7.1.2.2.2.2.2.1 v7.1.2.2.2.2.2.2 v7.2.1 v7.2.2.1 v7.2.2.2) fun v9 =>
          cond (v9)
            (Option.bind (g42 v7.1.1 v7.1.2.1 v7.1.2.2.1 v7.1.2.2.2.1 v7.1.2.2.2.2.1 v7.1.2.2.2.2.2.1 v7.1.2.2.2.2.2.2 v7.2.1 v7.2.2.1 v7.2.2.2) fun v10 =>
            Option.bind (g24 v10.1.1 v10.1.2.1 v10.1.2.2.1 v10.1.2.2.2.1 v10.1.2.2.2.2.1 v10.1.2.2.2.2.2.1 v10.1.2.2.2.2.2.2 v10.2.1 v10.2.2.1 v10.2.2.2) fun v11 =>
            some ((v10, v11)))
            (some ((v7, []))))
          (some ((v7, []))))
        (cond (a1_0 == 3)
          (Option.bind (g47 a1_0 a1_1 a1_2 a1_3 a1_4 a1_5 a1_6 a1_7 a1_8) fun v12 =>
          cond (v12)
            (Option.bind (g48 v1.1.1 v1.1.2.1 v1.1.2.2.1 v1.1.2.2.2.1 v1.1.2.2.2.2.1 v1.1.2.2.2.2.2.1 v1.1.2.2.2.2.2.2 v1.2.1 v1.2.2.1 v1.2.2.2 a1_0 a1_1 a1_2 a1_3 a1_4 a1_5 a1_6 a1_7 a1_8) fun v13 =>
            some (v13))
            (some ((v1, []))))
          (cond (a1_0 == 4)
            (Option.bind (g49 v1.1.1 v1.1.2.1 v1.1.2.2.1 v1.1.2.2.2.1 v1.1.2.2.2.2.1 v1.1.2.2.2.2.2.1 v1.1.2.2.2.2.2.2 v1.2.1 v1.2.2.1 v1.2.2.2 a1_0 a1_1 a1_2 a1_3 a1_4 a1_5 a1_6 a1_7 a1_8) fun v14 =>
            some ((v14, [])))
            (some ((v1, [])))))))
noncomputable def i16 : FI := ⟨ps16, .tup (.pr (.ty (.st (.pr (.st (.pr (.i .i64) (.pr (.i .i64) (.pr (.i .i64) (.pr (.i .i64) (.pr (.i .i64) (.pr (.i .i64) (.sl (.i .i64))))))))) (.pr (.i .i64) (.pr (.sl (.st (.pr (.i .i64) .s))) (.sl (.i .i64))))))) (.ty (.sl (.st (.pr (.i .i64) (.pr (.i .i64) (.pr (.i .i64) (.pr (.i .i64) (.pr (.i .i64) (.pr (.i .i64) (.pr (.i .i64) (.pr .b (.sl (.st (.pr (.i .i64) .s))))))))))))))), fun (((a0_0_0, a0_0_1, a0_0_2, a0_0_3, a0_0_4, a0_0_5, a0_0_6), a0_1, a0_2, a0_3), (a1_0, a1_1, a1_2, a1_3, a1_4, a1_5, a1_6, a1_7, a1_8)) => g16 a0_0_0 a0_0_1 a0_0_2 a0_0_3 a0_0_4 a0_0_5 a0_0_6 a0_1 a0_2 a0_3 a1_0 a1_1 a1_2 a1_3 a1_4 a1_5 a1_6 a1_7 a1_8⟩
theorem e16 : (fun a => i16.G a) = fnEval T Y env16 (zapA an [(12, 6, [])]) i16.ps i16.rs true Try.f16.results.toList lv16 c16 := by kernel_rfl
theorem lo16 : loopsOf c16 = [] := by kernel_rfl
theorem ll16 : LoopsOk T Y env16 (zapA an [(12, 6, [])]) lv16 (finO T true ps16 (.tup (.pr (.ty (.st (.pr (.st (.pr (.i .i64) (.pr (.i .i64) (.pr (.i .i64) (.pr (.i .i64) (.pr (.i .i64) (.pr (.i .i64) (.sl (.i .i64))))))))) (.pr (.i .i64) (.pr (.sl (.st (.pr (.i .i64) .s))) (.sl (.i .i64))))))) (.ty (.sl (.st (.pr (.i .i64) (.pr (.i .i64) (.pr (.i .i64) (.pr (.i .i64) (.pr (.i .i64) (.pr (.i .i64) (.pr (.i .i64) (.pr .b (.sl (.st (.pr (.i .i64) .s)))))))))))))))) Try.f16.results.toList) c16 := loopsOk_of (by rw [lo16]; exact trivial)
theorem k16 : FnOk Try.prog 16 i16 :=
  fn_ok (T := T) (Y := Y) (an := zapA an [(12, 6, [])]) (env := env16) (fr := true) (lenv := lv16) mixed tok.1 tok.2 (envCons k39 (envCons k43 (envCons k41 (envCons k44 (envCons k45 (envCons k46 (envCons k34 (envCons k42 (envCons k24 (envCons k47 (envCons k48 (envCons k49 (envNil))))))))))))) (fn := Try.f16) (c := c16) (by kernel_rfl) (by kernel_rfl) (by kernel_rfl) ll16 (fun a => congrFun e16 a)
/-! ### broker/replica.Propose -/
noncomputable def c17 : Code := Try.f17.body.getD .skip
noncomputable def env17 : Env := mkEnv [(34, i34), (39, i39), (50, i50)]
abbrev ps17 : List PSh := [.d (.st (.pr (.st (.pr (.i .i64) (.pr (.i .i64) (.pr (.i .i64) (.pr (.i .i64) (.pr (.i .i64) (.pr (.i .i64) (.sl (.i .i64))))))))) (.pr (.i .i64) (.pr (.sl (.st (.pr (.i .i64) .s))) (.sl (.i .i64)))))), .d .s]
abbrev D17 : Type := pairD (.tup (.pr (.ty (.st (.pr (.st (.pr (.i .i64) (.pr (.i .i64) (.pr (.i .i64) (.pr (.i .i64) (.pr (.i .i64) (.pr (.i .i64) (.sl (.i .i64))))))))) (.pr (.i .i64) (.pr (.sl (.st (.pr (.i .i64) .s))) (.sl (.i .i64))))))) (.pr (.ty (.i .i64)) (.ty (.i .i64))))) (osOf ps17)
noncomputable def lv17 : Nat → Option (LI D17) := fun _ => none
noncomputable def g17 (a0_0_0 : Int) (a0_0_1 : Int) (a0_0_2 : Int) (a0_0_3 : Int) (a0_0_4 : Int) (a0_0_5 : Int) (a0_0_6 : List Int) (a0_1 : Int) (a0_2 : List (Int × List UInt8)) (a0_3 : List Int) (a1 : List UInt8) : Option (((Int × Int × Int × Int × Int × Int × List Int) × Int × List (Int × List UInt8) × List Int) × Int × Int) :=
  Option.bind (g34 a0_0_0 a0_0_1 a0_0_2 a0_0_3 a0_0_4 a0_0_5 a0_0_6 a0_1 a0_2 a0_3) fun v1 =>
  cond (!v1)
    (some ((((0, 0, 0, 0, 0, 0, []), 0, [], []), 0, 24)))
    (cond (decide ((↑a1.length : Int) > 65536))
      (some ((((0, 0, 0, 0, 0, 0, []), 0, [], []), 0, 5)))
      (cond (decide ((↑a0_2.length : Int) ≥ 4096))
        (some ((((0, 0, 0, 0, 0, 0, []), 0, [], []), 0, 6)))
        (Option.bind (g39 a0_0_0 a0_0_1 a0_0_2 a0_0_3 a0_0_4 a0_0_5 a0_0_6 a0_1 a0_2 a0_3) fun v2 =>
        cond (decide (List.length v2.2.2.1 + 1 ≤ 2147483647))
          (cond (decide (0 ≤ a0_0_0) && decide (a0_0_0 < (↑(List.length v2.2.2.2) : Int)))
            (cond (decide (a0_0_0.toNat < List.length v2.2.2.2))
              (Option.bind (g50 v2.1.1 v2.1.2.1 v2.1.2.2.1 v2.1.2.2.2.1 v2.1.2.2.2.2.1 v2.1.2.2.2.2.2.1 v2.1.2.2.2.2.2.2 v2.2.1 (v2.2.2.1 ++ [(a0_0_2, a1)]) (List.set v2.2.2.2 a0_0_0.toNat (↑(v2.2.2.1 ++ [(a0_0_2, a1)]).length : Int))) fun v3 =>
              some ((v3, (↑(v2.2.2.1 ++ [(a0_0_2, a1)]).length : Int), 0)))
              (none))
            (none))
          (none))))
noncomputable def i17 : FI := ⟨ps17, .tup (.pr (.ty (.st (.pr (.st (.pr (.i .i64) (.pr (.i .i64) (.pr (.i .i64) (.pr (.i .i64) (.pr (.i .i64) (.pr (.i .i64) (.sl (.i .i64))))))))) (.pr (.i .i64) (.pr (.sl (.st (.pr (.i .i64) .s))) (.sl (.i .i64))))))) (.pr (.ty (.i .i64)) (.ty (.i .i64)))), fun (((a0_0_0, a0_0_1, a0_0_2, a0_0_3, a0_0_4, a0_0_5, a0_0_6), a0_1, a0_2, a0_3), a1) => g17 a0_0_0 a0_0_1 a0_0_2 a0_0_3 a0_0_4 a0_0_5 a0_0_6 a0_1 a0_2 a0_3 a1⟩
theorem e17 : (fun a => i17.G a) = fnEval T Y env17 (zapA an [(10, 7, [])]) i17.ps i17.rs true Try.f17.results.toList lv17 c17 := by kernel_rfl
theorem lo17 : loopsOf c17 = [] := by kernel_rfl
theorem ll17 : LoopsOk T Y env17 (zapA an [(10, 7, [])]) lv17 (finO T true ps17 (.tup (.pr (.ty (.st (.pr (.st (.pr (.i .i64) (.pr (.i .i64) (.pr (.i .i64) (.pr (.i .i64) (.pr (.i .i64) (.pr (.i .i64) (.sl (.i .i64))))))))) (.pr (.i .i64) (.pr (.sl (.st (.pr (.i .i64) .s))) (.sl (.i .i64))))))) (.pr (.ty (.i .i64)) (.ty (.i .i64))))) Try.f17.results.toList) c17 := loopsOk_of (by rw [lo17]; exact trivial)
theorem k17 : FnOk Try.prog 17 i17 :=
  fn_ok (T := T) (Y := Y) (an := zapA an [(10, 7, [])]) (env := env17) (fr := true) (lenv := lv17) mixed tok.1 tok.2 (envCons k34 (envCons k39 (envCons k50 (envNil)))) (fn := Try.f17) (c := c17) (by kernel_rfl) (by kernel_rfl) (by kernel_rfl) ll17 (fun a => congrFun e17 a)
/-! ### broker/replica.Restart -/
noncomputable def c19 : Code := Try.f19.body.getD .skip
noncomputable def env19 : Env := mkEnv [(51, i51)]
abbrev ps19 : List PSh := [.d (.st (.pr (.st (.pr (.i .i64) (.pr (.i .i64) (.pr (.i .i64) (.pr (.i .i64) (.pr (.i .i64) (.pr (.i .i64) (.sl (.i .i64))))))))) (.pr (.i .i64) (.pr (.sl (.st (.pr (.i .i64) .s))) (.sl (.i .i64))))))]
abbrev D19 : Type := pairD (.ty (.st (.pr (.st (.pr (.i .i64) (.pr (.i .i64) (.pr (.i .i64) (.pr (.i .i64) (.pr (.i .i64) (.pr (.i .i64) (.sl (.i .i64))))))))) (.pr (.i .i64) (.pr (.sl (.st (.pr (.i .i64) .s))) (.sl (.i .i64))))))) (osOf ps19)
noncomputable def lv19 : Nat → Option (LI D19) := fun _ => none
noncomputable def g19 (a0_0_0 : Int) (a0_0_1 : Int) (a0_0_2 : Int) (a0_0_3 : Int) (a0_0_4 : Int) (a0_0_5 : Int) (a0_0_6 : List Int) (a0_1 : Int) (a0_2 : List (Int × List UInt8)) (a0_3 : List Int) : Option ((Int × Int × Int × Int × Int × Int × List Int) × Int × List (Int × List UInt8) × List Int) :=
  Option.bind (g51 a0_2) fun v1 =>
  some (((a0_0_0, a0_0_1, a0_0_2, 0, a0_0_4, -1, []), 0, v1, []))
noncomputable def i19 : FI := ⟨ps19, .ty (.st (.pr (.st (.pr (.i .i64) (.pr (.i .i64) (.pr (.i .i64) (.pr (.i .i64) (.pr (.i .i64) (.pr (.i .i64) (.sl (.i .i64))))))))) (.pr (.i .i64) (.pr (.sl (.st (.pr (.i .i64) .s))) (.sl (.i .i64)))))), fun ((a0_0_0, a0_0_1, a0_0_2, a0_0_3, a0_0_4, a0_0_5, a0_0_6), a0_1, a0_2, a0_3) => g19 a0_0_0 a0_0_1 a0_0_2 a0_0_3 a0_0_4 a0_0_5 a0_0_6 a0_1 a0_2 a0_3⟩
theorem e19 : (fun a => i19.G a) = fnEval T Y env19 an i19.ps i19.rs true Try.f19.results.toList lv19 c19 := by kernel_rfl
theorem lo19 : loopsOf c19 = [] := by kernel_rfl
theorem ll19 : LoopsOk T Y env19 an lv19 (finO T true ps19 (.ty (.st (.pr (.st (.pr (.i .i64) (.pr (.i .i64) (.pr (.i .i64) (.pr (.i .i64) (.pr (.i .i64) (.pr (.i .i64) (.sl (.i .i64))))))))) (.pr (.i .i64) (.pr (.sl (.st (.pr (.i .i64) .s))) (.sl (.i .i64))))))) Try.f19.results.toList) c19 := loopsOk_of (by rw [lo19]; exact trivial)
theorem k19 : FnOk Try.prog 19 i19 :=
  fn_ok (T := T) (Y := Y) (an := an) (env := env19) (fr := true) (lenv := lv19) mixed tok.1 tok.2 (envCons k51 (envNil)) (fn := Try.f19) (c := c19) (by kernel_rfl) (by kernel_rfl) (by kernel_rfl) ll19 (fun a => congrFun e19 a)
/-! ### broker/replica.Committed -/
noncomputable def c22 : Code := Try.f22.body.getD .skip
noncomputable def env22 : Env := mkEnv []
abbrev ps22 : List PSh := [.d (.st (.pr (.st (.pr (.i .i64) (.pr (.i .i64) (.pr (.i .i64) (.pr (.i .i64) (.pr (.i .i64) (.pr (.i .i64) (.sl (.i .i64))))))))) (.pr (.i .i64) (.pr (.sl (.st (.pr (.i .i64) .s))) (.sl (.i .i64))))))]
abbrev D22 : Type := pairD (.ty (.sl .s)) (osOf ps22)
def ns22_0 : NS := { slots := [(3, .hw 20), (10, .ty (.sl (.st (.pr (.i .i64) .s)))), (11, .ty (.i .i64)), (12, .ty (.i .i64))], roots := [(20, .ar 1 .s)], ad := [{ t := 3, path := [], g := 20, d := 1, τ := (.s : Ty) }] }
def ex22_0 : List (Nat × NS) := [(0, { slots := [(3, .hw 20)], roots := [(20, .ar 1 .s)] })]
noncomputable def st22_0 (ih : (((List (Int × List UInt8)) × Int × Int) × (List (List UInt8))) → Option (((Unit) × (List (List UInt8))) ⊕ (List (List UInt8)))) : (((List (Int × List UInt8)) × Int × Int) × (List (List UInt8))) → Option (((Unit) × (List (List UInt8))) ⊕ (List (List UInt8))) := fun ((t10, t11, t12), r20) =>
  cond (decide (t12 < t11))
    (cond (decide (0 ≤ t12) && decide (t12 < (↑t10.length : Int)))
      (cond (decide (r20.length + 1 ≤ 2147483647))
        (ih ((t10, t11, IntKind.i64.wrap (t12 + 1)), r20 ++ [(t10.getD t12.toNat (0, [])).2]))
        (none))
      (none))
    (some (Sum.inl ((), r20)))
noncomputable def h22_0 : (((List (Int × List UInt8)) × Int × Int) × (List (List UInt8))) → Option (((Unit) × (List (List UInt8))) ⊕ (List (List UInt8))) := loopN st22_0 fuel
noncomputable def l22_0 : LI D22 := ⟨ns22_0, ex22_0, h22_0⟩
noncomputable def lv22 : Nat → Option (LI D22) := fun q => if q = 3 then some l22_0 else (fun _ => none) q
noncomputable def g22 (a0_0_0 : Int) (a0_0_1 : Int) (a0_0_2 : Int) (a0_0_3 : Int) (a0_0_4 : Int) (a0_0_5 : Int) (a0_0_6 : List Int) (a0_1 : Int) (a0_2 : List (Int × List UInt8)) (a0_3 : List Int) : Option (List (List UInt8)) :=
  cond (decide (0 ≤ a0_1) && decide (a0_1 ≤ (↑a0_2.length : Int)) && true)
    (Option.bind (h22_0 ((List.drop 0 (List.take a0_1.toNat a0_2), (↑(List.drop 0 (List.take a0_1.toNat a0_2)).length : Int), 0), [])) fun v1 =>
    match v1 with
    | .inl x2 =>
      some (x2.2)
    | .inr x2 =>
      some (x2))
    (none)
noncomputable def i22 : FI := ⟨ps22, .ty (.sl .s), fun ((a0_0_0, a0_0_1, a0_0_2, a0_0_3, a0_0_4, a0_0_5, a0_0_6), a0_1, a0_2, a0_3) => g22 a0_0_0 a0_0_1 a0_0_2 a0_0_3 a0_0_4 a0_0_5 a0_0_6 a0_1 a0_2 a0_3⟩
theorem s22_0 : st22_0 = stepEval T Y env22 an lv22 (finO T true ps22 (.ty (.sl .s)) Try.f22.results.toList) (loopAt c22 0) ns22_0 ex22_0 := by kernel_rfl
theorem e22 : (fun a => i22.G a) = fnEval T Y env22 an i22.ps i22.rs true Try.f22.results.toList lv22 c22 := by kernel_rfl
theorem lo22 : loopsOf c22 = [loopAt c22 0] := by kernel_rfl
theorem ll22 : LoopsOk T Y env22 an lv22 (finO T true ps22 (.ty (.sl .s)) Try.f22.results.toList) c22 := loopsOk_of (by rw [lo22]; exact ⟨loop1 (li := l22_0) (by kernel_rfl) (by kernel_rfl) s22_0, trivial⟩)
theorem k22 : FnOk Try.prog 22 i22 :=
  fn_ok (T := T) (Y := Y) (an := an) (env := env22) (fr := true) (lenv := lv22) mixed tok.1 tok.2 (envNil) (fn := Try.f22) (c := c22) (by kernel_rfl) (by kernel_rfl) (by kernel_rfl) ll22 (fun a => congrFun e22 a)
/-! ### broker/brokerlaw41.trio -/
noncomputable def c27 : Code := Try.f27.body.getD .skip
noncomputable def env27 : Env := mkEnv [(9, i9), (15, i15), (16, i16)]
abbrev ps27 : List PSh := []
abbrev D27 : Type := pairD (.tup (.pr (.ty (.sl (.st (.pr (.st (.pr (.i .i64) (.pr (.i .i64) (.pr (.i .i64) (.pr (.i .i64) (.pr (.i .i64) (.pr (.i .i64) (.sl (.i .i64))))))))) (.pr (.i .i64) (.pr (.sl (.st (.pr (.i .i64) .s))) (.sl (.i .i64)))))))) (.ty .b))) (osOf ps27)
def ns27_0 : NS := { slots := [(2, .hw 25), (12, .ty (.i .i64))], roots := [(25, .ar 10 (.st (.pr (.st (.pr (.i .i64) (.pr (.i .i64) (.pr (.i .i64) (.pr (.i .i64) (.pr (.i .i64) (.pr (.i .i64) (.sl (.i .i64))))))))) (.pr (.i .i64) (.pr (.sl (.st (.pr (.i .i64) .s))) (.sl (.i .i64)))))))], ad := [{ t := 2, path := [], g := 25, d := 10, τ := (.st (.pr (.st (.pr (.i .i64) (.pr (.i .i64) (.pr (.i .i64) (.pr (.i .i64) (.pr (.i .i64) (.pr (.i .i64) (.sl (.i .i64))))))))) (.pr (.i .i64) (.pr (.sl (.st (.pr (.i .i64) .s))) (.sl (.i .i64))))) : Ty) }] }
def ex27_0 : List (Nat × NS) := [(0, { slots := [(2, .hw 25)], roots := [(25, .ar 10 (.st (.pr (.st (.pr (.i .i64) (.pr (.i .i64) (.pr (.i .i64) (.pr (.i .i64) (.pr (.i .i64) (.pr (.i .i64) (.sl (.i .i64))))))))) (.pr (.i .i64) (.pr (.sl (.st (.pr (.i .i64) .s))) (.sl (.i .i64)))))))] })]
noncomputable def st27_0 (ih : ((Int) × (List ((Int × Int × Int × Int × Int × Int × List Int) × Int × List (Int × List UInt8) × List Int))) → Option (((Unit) × (List ((Int × Int × Int × Int × Int × Int × List Int) × Int × List (Int × List UInt8) × List Int))) ⊕ (((List ((Int × Int × Int × Int × Int × Int × List Int) × Int × List (Int × List UInt8) × List Int)) × Bool)))) : ((Int) × (List ((Int × Int × Int × Int × Int × Int × List Int) × Int × List (Int × List UInt8) × List Int))) → Option (((Unit) × (List ((Int × Int × Int × Int × Int × Int × List Int) × Int × List (Int × List UInt8) × List Int))) ⊕ (((List ((Int × Int × Int × Int × Int × Int × List Int) × Int × List (Int × List UInt8) × List Int)) × Bool))) := fun (t12, r25) =>
  cond (decide (t12 < 3))
    (Option.bind (g9 t12 3) fun v1 =>
    cond (v1.2 != 0)
      (some (Sum.inr ([], false)))
      (cond (decide (r25.length + 1 ≤ 2147483647))
        (ih (IntKind.i64.wrap (t12 + 1), r25 ++ [v1.1]))
        (none)))
    (some (Sum.inl ((), r25)))
noncomputable def h27_0 : ((Int) × (List ((Int × Int × Int × Int × Int × Int × List Int) × Int × List (Int × List UInt8) × List Int))) → Option (((Unit) × (List ((Int × Int × Int × Int × Int × Int × List Int) × Int × List (Int × List UInt8) × List Int))) ⊕ (((List ((Int × Int × Int × Int × Int × Int × List Int) × Int × List (Int × List UInt8) × List Int)) × Bool))) := loopN st27_0 fuel
noncomputable def l27_0 : LI D27 := ⟨ns27_0, ex27_0, h27_0⟩
noncomputable def lv27 : Nat → Option (LI D27) := fun q => if q = 3 then some l27_0 else (fun _ => none) q
noncomputable def g27 : Option ((List ((Int × Int × Int × Int × Int × Int × List Int) × Int × List (Int × List UInt8) × List Int)) × Bool) :=
  Option.bind (h27_0 (0, [])) fun v1 =>
  match v1 with
  | .inl x2 =>
    cond (decide (0 ≤ 0) && decide (0 < (↑(List.length x2.2) : Int)))
      (cond (decide (Int.toNat 0 < List.length x2.2))
        (Option.bind (g15 (List.getD x2.2 (Int.toNat 0) ((0, 0, 0, 0, 0, 0, []), 0, [], [])).1.1 (List.getD x2.2 (Int.toNat 0) ((0, 0, 0, 0, 0, 0, []), 0, [], [])).1.2.1 (List.getD x2.2 (Int.toNat 0) ((0, 0, 0, 0, 0, 0, []), 0, [], [])).1.2.2.1 (List.getD x2.2 (Int.toNat 0) ((0, 0, 0, 0, 0, 0, []), 0, [], [])).1.2.2.2.1 (List.getD x2.2 (Int.toNat 0) ((0, 0, 0, 0, 0, 0, []), 0, [], [])).1.2.2.2.2.1 (List.getD x2.2 (Int.toNat 0) ((0, 0, 0, 0, 0, 0, []), 0, [], [])).1.2.2.2.2.2.1 (List.getD x2.2 (Int.toNat 0) ((0, 0, 0, 0, 0, 0, []), 0, [], [])).1.2.2.2.2.2.2 (List.getD x2.2 (Int.toNat 0) ((0, 0, 0, 0, 0, 0, []), 0, [], [])).2.1 (List.getD x2.2 (Int.toNat 0) ((0, 0, 0, 0, 0, 0, []), 0, [], [])).2.2.1 (List.getD x2.2 (Int.toNat 0) ((0, 0, 0, 0, 0, 0, []), 0, [], [])).2.2.2) fun v3 =>
        cond ((↑(List.length v3.2) : Int) != 2)
          (some (([], false)))
          (cond (decide (0 ≤ 1) && decide (1 < (↑(List.length x2.2) : Int)))
            (cond (decide (Int.toNat 1 < List.length x2.2))
              (cond (decide (0 ≤ 0) && decide (0 < (↑(List.length v3.2) : Int)))
                (Option.bind (g16 (List.getD x2.2 (Int.toNat 1) ((0, 0, 0, 0, 0, 0, []), 0, [], [])).1.1 (List.getD x2.2 (Int.toNat 1) ((0, 0, 0, 0, 0, 0, []), 0, [], [])).1.2.1 (List.getD x2.2 (Int.toNat 1) ((0, 0, 0, 0, 0, 0, []), 0, [], [])).1.2.2.1 (List.getD x2.2 (Int.toNat 1) ((0, 0, 0, 0, 0, 0, []), 0, [], [])).1.2.2.2.1 (List.getD x2.2 (Int.toNat 1) ((0, 0, 0, 0, 0, 0, []), 0, [], [])).1.2.2.2.2.1 (List.getD x2.2 (Int.toNat 1) ((0, 0, 0, 0, 0, 0, []), 0, [], [])).1.2.2.2.2.2.1 (List.getD x2.2 (Int.toNat 1) ((0, 0, 0, 0, 0, 0, []), 0, [], [])).1.2.2.2.2.2.2 (List.getD x2.2 (Int.toNat 1) ((0, 0, 0, 0, 0, 0, []), 0, [], [])).2.1 (List.getD x2.2 (Int.toNat 1) ((0, 0, 0, 0, 0, 0, []), 0, [], [])).2.2.1 (List.getD x2.2 (Int.toNat 1) ((0, 0, 0, 0, 0, 0, []), 0, [], [])).2.2.2 (List.getD v3.2 (Int.toNat 0) (0, 0, 0, 0, 0, 0, 0, false, [])).1 (List.getD v3.2 (Int.toNat 0) (0, 0, 0, 0, 0, 0, 0, false, [])).2.1 (List.getD v3.2 (Int.toNat 0) (0, 0, 0, 0, 0, 0, 0, false, [])).2.2.1 (List.getD v3.2 (Int.toNat 0) (0, 0, 0, 0, 0, 0, 0, false, [])).2.2.2.1 (List.getD v3.2 (Int.toNat 0) (0, 0, 0, 0, 0, 0, 0, false, [])).2.2.2.2.1 (List.getD v3.2 (Int.toNat 0) (0, 0, 0, 0, 0, 0, 0, false, [])).2.2.2.2.2.1 (List.getD v3.2 (Int.toNat 0) (0, 0, 0, 0, 0, 0, 0, false, [])).2.2.2.2.2.2.1 (List.getD v3.2 (Int.toNat 0) (0, 0, 0, 0, 0, 0, 0, false, [])).2.2.2.2.2.2.2.1 (List.getD v3.2 (Int.toNat 0) (0, 0, 0, 0, 0, 0, 0, false, [])).2.2.2.2.2.2.2.2) fun v4 =>
                cond ((↑(List.length v4.2) : Int) != 1)
                  (some (([], false)))
                  (cond (decide (0 ≤ 0) && decide (0 < (↑(List.length v4.2) : Int)))
                    (Option.bind (g16 v3.1.1.1 v3.1.1.2.1 v3.1.1.2.2.1 v3.1.1.2.2.2.1 v3.1.1.2.2.2.2.1 v3.1.1.2.2.2.2.2.1 v3.1.1.2.2.2.2.2.2 v3.1.2.1 v3.1.2.2.1 v3.1.2.2.2 (List.getD v4.2 (Int.toNat 0) (0, 0, 0, 0, 0, 0, 0, false, [])).1 (List.getD v4.2 (Int.toNat 0) (0, 0, 0, 0, 0, 0, 0, false, [])).2.1 (List.getD v4.2 (Int.toNat 0) (0, 0, 0, 0, 0, 0, 0, false, [])).2.2.1 (List.getD v4.2 (Int.toNat 0) (0, 0, 0, 0, 0, 0, 0, false, [])).2.2.2.1 (List.getD v4.2 (Int.toNat 0) (0, 0, 0, 0, 0, 0, 0, false, [])).2.2.2.2.1 (List.getD v4.2 (Int.toNat 0) (0, 0, 0, 0, 0, 0, 0, false, [])).2.2.2.2.2.1 (List.getD v4.2 (Int.toNat 0) (0, 0, 0, 0, 0, 0, 0, false, [])).2.2.2.2.2.2.1 (List.getD v4.2 (Int.toNat 0) (0, 0, 0, 0, 0, 0, 0, false, [])).2.2.2.2.2.2.2.1 (List.getD v4.2 (Int.toNat 0) (0, 0, 0, 0, 0, 0, 0, false, [])).2.2.2.2.2.2.2.2) fun v5 =>
                    cond (decide (0 ≤ 0) && decide (0 < (↑(List.length x2.2) : Int)))
                      (cond (decide (Int.toNat 0 < List.length x2.2))
                        (cond (decide (0 ≤ 1) && decide (1 < (↑(List.set x2.2 (Int.toNat 0) v5.1).length : Int)))
                          (cond (decide (Int.toNat 1 < (List.set x2.2 (Int.toNat 0) v5.1).length))
                            (cond (v5.1.1.2.2.2.1 == 2)
                              (some (((List.set x2.2 (Int.toNat 0) v5.1).set (Int.toNat 1) v4.1, (↑(List.length v5.2) : Int) == 2)))
                              (some (((List.set x2.2 (Int.toNat 0) v5.1).set (Int.toNat 1) v4.1, false))))
                            (none))
                          (none))
                        (none))
                      (none))
                    (none)))
                (none))
              (none))
            (none)))
        (none))
      (none)
  | .inr x2 =>
    some (x2)
noncomputable def i27 : FI := ⟨ps27, .tup (.pr (.ty (.sl (.st (.pr (.st (.pr (.i .i64) (.pr (.i .i64) (.pr (.i .i64) (.pr (.i .i64) (.pr (.i .i64) (.pr (.i .i64) (.sl (.i .i64))))))))) (.pr (.i .i64) (.pr (.sl (.st (.pr (.i .i64) .s))) (.sl (.i .i64)))))))) (.ty .b)), fun _ => g27⟩
theorem s27_0 : st27_0 = stepEval T Y env27 an lv27 (finO T true ps27 (.tup (.pr (.ty (.sl (.st (.pr (.st (.pr (.i .i64) (.pr (.i .i64) (.pr (.i .i64) (.pr (.i .i64) (.pr (.i .i64) (.pr (.i .i64) (.sl (.i .i64))))))))) (.pr (.i .i64) (.pr (.sl (.st (.pr (.i .i64) .s))) (.sl (.i .i64)))))))) (.ty .b))) Try.f27.results.toList) (loopAt c27 0) ns27_0 ex27_0 := by kernel_rfl
theorem e27 : (fun a => i27.G a) = fnEval T Y env27 an i27.ps i27.rs true Try.f27.results.toList lv27 c27 := by kernel_rfl
theorem lo27 : loopsOf c27 = [loopAt c27 0] := by kernel_rfl
theorem ll27 : LoopsOk T Y env27 an lv27 (finO T true ps27 (.tup (.pr (.ty (.sl (.st (.pr (.st (.pr (.i .i64) (.pr (.i .i64) (.pr (.i .i64) (.pr (.i .i64) (.pr (.i .i64) (.pr (.i .i64) (.sl (.i .i64))))))))) (.pr (.i .i64) (.pr (.sl (.st (.pr (.i .i64) .s))) (.sl (.i .i64)))))))) (.ty .b))) Try.f27.results.toList) c27 := loopsOk_of (by rw [lo27]; exact ⟨loop1 (li := l27_0) (by kernel_rfl) (by kernel_rfl) s27_0, trivial⟩)
theorem k27 : FnOk Try.prog 27 i27 :=
  fn_ok (T := T) (Y := Y) (an := an) (env := env27) (fr := true) (lenv := lv27) mixed tok.1 tok.2 (envCons k9 (envCons k15 (envCons k16 (envNil)))) (fn := Try.f27) (c := c27) (by kernel_rfl) (by kernel_rfl) (by kernel_rfl) ll27 (fun a => congrFun e27 a)
/-! ### broker/brokerlaw41.exampleHolds -/
noncomputable def c8 : Code := Try.f8.body.getD .skip
noncomputable def env8 : Env := mkEnv [(27, i27), (17, i17), (24, i24), (16, i16), (28, i28), (19, i19), (22, i22), (23, i23), (12, i12)]
abbrev ps8 : List PSh := []
abbrev D8 : Type := pairD (.ty .b) (osOf ps8)
noncomputable def lv8 : Nat → Option (LI D8) := fun _ => none
noncomputable def g8 : Option (Bool) :=
  Option.bind (g27) fun v1 =>
  cond (!v1.2)
    (some (false))
    (cond (decide (0 ≤ 0) && decide (0 < (↑(List.length v1.1) : Int)))
      (Option.bind (g17 (List.getD v1.1 (Int.toNat 0) ((0, 0, 0, 0, 0, 0, []), 0, [], [])).1.1 (List.getD v1.1 (Int.toNat 0) ((0, 0, 0, 0, 0, 0, []), 0, [], [])).1.2.1 (List.getD v1.1 (Int.toNat 0) ((0, 0, 0, 0, 0, 0, []), 0, [], [])).1.2.2.1 (List.getD v1.1 (Int.toNat 0) ((0, 0, 0, 0, 0, 0, []), 0, [], [])).1.2.2.2.1 (List.getD v1.1 (Int.toNat 0) ((0, 0, 0, 0, 0, 0, []), 0, [], [])).1.2.2.2.2.1 (List.getD v1.1 (Int.toNat 0) ((0, 0, 0, 0, 0, 0, []), 0, [], [])).1.2.2.2.2.2.1 (List.getD v1.1 (Int.toNat 0) ((0, 0, 0, 0, 0, 0, []), 0, [], [])).1.2.2.2.2.2.2 (List.getD v1.1 (Int.toNat 0) ((0, 0, 0, 0, 0, 0, []), 0, [], [])).2.1 (List.getD v1.1 (Int.toNat 0) ((0, 0, 0, 0, 0, 0, []), 0, [], [])).2.2.1 (List.getD v1.1 (Int.toNat 0) ((0, 0, 0, 0, 0, 0, []), 0, [], [])).2.2.2 [120]) fun v2 =>
      Option.bind (g24 v2.1.1.1 v2.1.1.2.1 v2.1.1.2.2.1 v2.1.1.2.2.2.1 v2.1.1.2.2.2.2.1 v2.1.1.2.2.2.2.2.1 v2.1.1.2.2.2.2.2.2 v2.1.2.1 v2.1.2.2.1 v2.1.2.2.2) fun v3 =>
      cond (v2.2.1 != 1)
        (some (false))
        (cond (v2.2.2 != 0)
          (some (false))
          (cond (v2.1.2.1 != 0)
            (some (false))
            (cond ((↑(List.length v3) : Int) != 2)
              (some (false))
              (cond (decide (0 ≤ 0) && decide (0 < (↑(List.length v3) : Int)))
                (cond ((↑(List.length (List.getD v3 (Int.toNat 0) (0, 0, 0, 0, 0, 0, 0, false, [])).2.2.2.2.2.2.2.2) : Int) != 1)
                  (some (false))
                  (cond (decide (0 ≤ 1) && decide (1 < (↑(List.length v1.1) : Int)))
                    (cond (decide (0 ≤ 0) && decide (0 < (↑(List.length v3) : Int)))
                      (Option.bind (g16 (List.getD v1.1 (Int.toNat 1) ((0, 0, 0, 0, 0, 0, []), 0, [], [])).1.1 (List.getD v1.1 (Int.toNat 1) ((0, 0, 0, 0, 0, 0, []), 0, [], [])).1.2.1 (List.getD v1.1 (Int.toNat 1) ((0, 0, 0, 0, 0, 0, []), 0, [], [])).1.2.2.1 (List.getD v1.1 (Int.toNat 1) ((0, 0, 0, 0, 0, 0, []), 0, [], [])).1.2.2.2.1 (List.getD v1.1 (Int.toNat 1) ((0, 0, 0, 0, 0, 0, []), 0, [], [])).1.2.2.2.2.1 (List.getD v1.1 (Int.toNat 1) ((0, 0, 0, 0, 0, 0, []), 0, [], [])).1.2.2.2.2.2.1 (List.getD v1.1 (Int.toNat 1) ((0, 0, 0, 0, 0, 0, []), 0, [], [])).1.2.2.2.2.2.2 (List.getD v1.1 (Int.toNat 1) ((0, 0, 0, 0, 0, 0, []), 0, [], [])).2.1 (List.getD v1.1 (Int.toNat 1) ((0, 0, 0, 0, 0, 0, []), 0, [], [])).2.2.1 (List.getD v1.1 (Int.toNat 1) ((0, 0, 0, 0, 0, 0, []), 0, [], [])).2.2.2 (List.getD v3 (Int.toNat 0) (0, 0, 0, 0, 0, 0, 0, false, [])).1 (List.getD v3 (Int.toNat 0) (0, 0, 0, 0, 0, 0, 0, false, [])).2.1 (List.getD v3 (Int.toNat 0) (0, 0, 0, 0, 0, 0, 0, false, [])).2.2.1 (List.getD v3 (Int.toNat 0) (0, 0, 0, 0, 0, 0, 0, false, [])).2.2.2.1 (List.getD v3 (Int.toNat 0) (0, 0, 0, 0, 0, 0, 0, false, [])).2.2.2.2.1 (List.getD v3 (Int.toNat 0) (0, 0, 0, 0, 0, 0, 0, false, [])).2.2.2.2.2.1 (List.getD v3 (Int.toNat 0) (0, 0, 0, 0, 0, 0, 0, false, [])).2.2.2.2.2.2.1 (List.getD v3 (Int.toNat 0) (0, 0, 0, 0, 0, 0, 0, false, [])).2.2.2.2.2.2.2.1 (List.getD v3 (Int.toNat 0) (0, 0, 0, 0, 0, 0, 0, false, [])).2.2.2.2.2.2.2.2) fun v4 =>
                      cond ((↑(List.length v4.2) : Int) != 1)
                        (some (false))
                        (cond (decide (0 ≤ 0) && decide (0 < (↑(List.length v4.2) : Int)))
                          (cond (!(List.getD v4.2 (Int.toNat 0) (0, 0, 0, 0, 0, 0, 0, false, [])).2.2.2.2.2.2.2.1)
                            (some (false))
                            (cond (decide (0 ≤ 0) && decide (0 < (↑(List.length v4.2) : Int)))
                              (cond ((List.getD v4.2 (Int.toNat 0) (0, 0, 0, 0, 0, 0, 0, false, [])).2.2.2.2.1 != 1)
                                (some (false))
                                (cond ((↑(List.length v4.1.2.2.1) : Int) != 1)
                                  (some (false))
                                  (cond (decide (0 ≤ 0) && decide (0 < (↑(List.length v4.2) : Int)))
                                    (Option.bind (g16 v2.1.1.1 v2.1.1.2.1 v2.1.1.2.2.1 v2.1.1.2.2.2.1 v2.1.1.2.2.2.2.1 v2.1.1.2.2.2.2.2.1 v2.1.1.2.2.2.2.2.2 v2.1.2.1 v2.1.2.2.1 v2.1.2.2.2 (List.getD v4.2 (Int.toNat 0) (0, 0, 0, 0, 0, 0, 0, false, [])).1 (List.getD v4.2 (Int.toNat 0) (0, 0, 0, 0, 0, 0, 0, false, [])).2.1 (List.getD v4.2 (Int.toNat 0) (0, 0, 0, 0, 0, 0, 0, false, [])).2.2.1 (List.getD v4.2 (Int.toNat 0) (0, 0, 0, 0, 0, 0, 0, false, [])).2.2.2.1 (List.getD v4.2 (Int.toNat 0) (0, 0, 0, 0, 0, 0, 0, false, [])).2.2.2.2.1 (List.getD v4.2 (Int.toNat 0) (0, 0, 0, 0, 0, 0, 0, false, [])).2.2.2.2.2.1 (List.getD v4.2 (Int.toNat 0) (0, 0, 0, 0, 0, 0, 0, false, [])).2.2.2.2.2.2.1 (List.getD v4.2 (Int.toNat 0) (0, 0, 0, 0, 0, 0, 0, false, [])).2.2.2.2.2.2.2.1 (List.getD v4.2 (Int.toNat 0) (0, 0, 0, 0, 0, 0, 0, false, [])).2.2.2.2.2.2.2.2) fun v5 =>
                                    Option.bind (g16 v4.1.1.1 v4.1.1.2.1 v4.1.1.2.2.1 v4.1.1.2.2.2.1 v4.1.1.2.2.2.2.1 v4.1.1.2.2.2.2.2.1 v4.1.1.2.2.2.2.2.2 v4.1.2.1 v4.1.2.2.1 v4.1.2.2.2 3 0 1 1 5 1 0 false []) fun v6 =>
                                    Option.bind (g17 v4.1.1.1 v4.1.1.2.1 v4.1.1.2.2.1 v4.1.1.2.2.2.1 v4.1.1.2.2.2.2.1 v4.1.1.2.2.2.2.2.1 v4.1.1.2.2.2.2.2.2 v4.1.2.1 v4.1.2.2.1 v4.1.2.2.2 [121]) fun v7 =>
                                    cond (v5.1.2.1 != 1)
                                      (some (false))
                                      (cond ((↑(List.length v5.2) : Int) != 0)
                                        (some (false))
                                        (cond ((↑(List.length v6.2) : Int) != 1)
                                          (some (false))
                                          (cond (decide (0 ≤ 0) && decide (0 < (↑(List.length v6.2) : Int)))
                                            (cond ((List.getD v6.2 (Int.toNat 0) (0, 0, 0, 0, 0, 0, 0, false, [])).2.2.2.2.2.2.2.1)
                                              (some (false))
                                              (cond (v7.2.2 != 24)
                                                (some (false))
                                                (Option.bind (g28 v5.1.2.2.2 [1, 1, 0]) fun v8 =>
                                                cond (!v8)
                                                  (some (false))
                                                  (Option.bind (g19 v5.1.1.1 v5.1.1.2.1 v5.1.1.2.2.1 v5.1.1.2.2.2.1 v5.1.1.2.2.2.2.1 v5.1.1.2.2.2.2.2.1 v5.1.1.2.2.2.2.2.2 v5.1.2.1 v5.1.2.2.1 v5.1.2.2.2) fun v9 =>
                                                  Option.bind (g22 v9.1.1 v9.1.2.1 v9.1.2.2.1 v9.1.2.2.2.1 v9.1.2.2.2.2.1 v9.1.2.2.2.2.2.1 v9.1.2.2.2.2.2.2 v9.2.1 v9.2.2.1 v9.2.2.2) fun v10 =>
                                                  cond ((↑(List.length v10) : Int) == 0)
                                                    (cond ((↑(List.length v9.2.2.1) : Int) == 1)
                                                      (Option.bind (g22 v5.1.1.1 v5.1.1.2.1 v5.1.1.2.2.1 v5.1.1.2.2.2.1 v5.1.1.2.2.2.2.1 v5.1.1.2.2.2.2.2.1 v5.1.1.2.2.2.2.2.2 v5.1.2.1 v5.1.2.2.1 v5.1.2.2.2) fun v11 =>
                                                      Option.bind (g23 v11 [[120]]) fun v12 =>
                                                      cond (v12)
                                                        (Option.bind (g12 v5.1.1.1 v5.1.1.2.1 v5.1.1.2.2.1 v5.1.1.2.2.2.1 v5.1.1.2.2.2.2.1 v5.1.1.2.2.2.2.2.1 v5.1.1.2.2.2.2.2.2 v5.1.2.1 v5.1.2.2.1 v5.1.2.2.2) fun v13 =>
                                                        some (v13 == 0))
                                                        (some (false)))
                                                      (some (false)))
                                                    (some (false))))))
                                            (none)))))
                                    (none))))
                              (none)))
                          (none)))
                      (none))
                    (none)))
                (none))))))
      (none))
noncomputable def i8 : FI := ⟨ps8, .ty .b, fun _ => g8⟩
theorem e8 : (fun a => i8.G a) = fnEval T Y env8 an i8.ps i8.rs true Try.f8.results.toList lv8 c8 := by kernel_rfl
theorem lo8 : loopsOf c8 = [] := by kernel_rfl
theorem ll8 : LoopsOk T Y env8 an lv8 (finO T true ps8 (.ty .b) Try.f8.results.toList) c8 := loopsOk_of (by rw [lo8]; exact trivial)
theorem k8 : FnOk Try.prog 8 i8 :=
  fn_ok (T := T) (Y := Y) (an := an) (env := env8) (fr := true) (lenv := lv8) mixed tok.1 tok.2 (envCons k27 (envCons k17 (envCons k24 (envCons k16 (envCons k28 (envCons k19 (envCons k22 (envCons k23 (envCons k12 (envNil)))))))))) (fn := Try.f8) (c := c8) (by kernel_rfl) (by kernel_rfl) (by kernel_rfl) ll8 (fun a => congrFun e8 a)
end Go.Proofs.Ytfadalgikdffeaa.EVT
