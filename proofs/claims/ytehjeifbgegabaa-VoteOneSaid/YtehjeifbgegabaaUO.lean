/- What functions compute, as printed (U, part O). -/
import Derived.Test.YtehjeifbgegabaaUE
set_option linter.unusedVariables false
set_option maxRecDepth 100000
set_option maxHeartbeats 0
namespace Go.Proofs.Ytehjeifbgegabaa.EVT
open Go Go.EV
/-! ### slices.Index[[]broker/brokerlaw40.leader,broker/brokerlaw40.leader] -/
noncomputable def c29 : Code := Try.f29.body.getD .skip
noncomputable def env29 : Env := mkEnv []
abbrev ps29 : List PSh := [.d (.sl (.st (.pr (.i .i64) (.i .i64)))), .d (.st (.pr (.i .i64) (.i .i64)))]
abbrev D29 : Type := pairD (.ty (.i .i64)) (osOf ps29)
def ns29_0 : NS := { slots := [(3, .pt 3 []), (0, .ty (.sl (.st (.pr (.i .i64) (.i .i64))))), (7, .ty (.i .i64)), (8, .ty (.i .i64))], roots := [(3, .ty (.st (.pr (.i .i64) (.i .i64))))] }
def ex29_0 : List (Nat × NS) := [(0, { slots := [], roots := [] })]
noncomputable def st29_0 (ih : (((List (Int × Int)) × Int × Int) × (Int × Int)) → Option (((Unit) × (Unit)) ⊕ Int)) : (((List (Int × Int)) × Int × Int) × (Int × Int)) → Option (((Unit) × (Unit)) ⊕ Int) := fun ((t0, t7, t8), (r3_0, r3_1)) =>
  cond (decide (t8 < t7))
    (cond (decide (0 ≤ t8) && decide (t8 < (↑t0.length : Int)))
      (cond (r3_0 == (t0.getD t8.toNat (0, 0)).1 && (r3_1 == (t0.getD t8.toNat (0, 0)).2 && true))
        (some (Sum.inr t8))
        (ih ((t0, t7, IntKind.i64.wrap (t8 + 1)), r3_0, r3_1)))
      (none))
    (some (Sum.inl ((), ())))
noncomputable def h29_0 : (((List (Int × Int)) × Int × Int) × (Int × Int)) → Option (((Unit) × (Unit)) ⊕ Int) := loopN st29_0 fuel
noncomputable def l29_0 : LI D29 := ⟨ns29_0, ex29_0, h29_0⟩
noncomputable def lv29 : Nat → Option (LI D29) := fun q => if q = 2 then some l29_0 else (fun _ => none) q
noncomputable def g29 (a0 : List (Int × Int)) (a1_0 : Int) (a1_1 : Int) : Option (Int) :=
  Option.bind (h29_0 ((a0, (↑a0.length : Int), 0), a1_0, a1_1)) fun v1 =>
  match v1 with
  | .inl x2 =>
    some (-1)
  | .inr x2 =>
    some (x2)
noncomputable def i29 : FI := ⟨ps29, .ty (.i .i64), fun (a0, (a1_0, a1_1)) => g29 a0 a1_0 a1_1⟩
theorem s29_0 : st29_0 = stepEval T Y env29 an lv29 (finO T true ps29 (.ty (.i .i64)) Try.f29.results.toList) (loopAt c29 0) ns29_0 ex29_0 := by kernel_rfl
theorem e29 : (fun a => i29.G a) = fnEval T Y env29 an i29.ps i29.rs true Try.f29.results.toList lv29 c29 := by kernel_rfl
theorem lo29 : loopsOf c29 = [loopAt c29 0] := by kernel_rfl
theorem ll29 : LoopsOk T Y env29 an lv29 (finO T true ps29 (.ty (.i .i64)) Try.f29.results.toList) c29 := loopsOk_of (by rw [lo29]; exact ⟨loop1 (li := l29_0) (by kernel_rfl) (by kernel_rfl) s29_0, trivial⟩)
theorem k29 : FnOk Try.prog 29 i29 :=
  fn_ok (T := T) (Y := Y) (an := an) (env := env29) (fr := true) (lenv := lv29) mixed tok.1 tok.2 (envNil) (fn := Try.f29) (c := c29) (by kernel_rfl) (by kernel_rfl) (by kernel_rfl) ll29 (fun a => congrFun e29 a)
/-! ### slices.Contains[[]broker/brokerlaw40.leader,broker/brokerlaw40.leader] -/
noncomputable def c18 : Code := Try.f18.body.getD .skip
noncomputable def env18 : Env := mkEnv [(29, i29)]
abbrev ps18 : List PSh := [.d (.sl (.st (.pr (.i .i64) (.i .i64)))), .d (.st (.pr (.i .i64) (.i .i64)))]
abbrev D18 : Type := pairD (.ty .b) (osOf ps18)
noncomputable def lv18 : Nat → Option (LI D18) := fun _ => none
noncomputable def g18 (a0 : List (Int × Int)) (a1_0 : Int) (a1_1 : Int) : Option (Bool) :=
  Option.bind (g29 a0 a1_0 a1_1) fun v1 =>
  some (decide (v1 ≥ 0))
noncomputable def i18 : FI := ⟨ps18, .ty .b, fun (a0, (a1_0, a1_1)) => g18 a0 a1_0 a1_1⟩
theorem e18 : (fun a => i18.G a) = fnEval T Y env18 an i18.ps i18.rs true Try.f18.results.toList lv18 c18 := by kernel_rfl
theorem lo18 : loopsOf c18 = [] := by kernel_rfl
theorem ll18 : LoopsOk T Y env18 an lv18 (finO T true ps18 (.ty .b) Try.f18.results.toList) c18 := loopsOk_of (by rw [lo18]; exact trivial)
theorem k18 : FnOk Try.prog 18 i18 :=
  fn_ok (T := T) (Y := Y) (an := an) (env := env18) (fr := true) (lenv := lv18) mixed tok.1 tok.2 (envCons k29 (envNil)) (fn := Try.f18) (c := c18) (by kernel_rfl) (by kernel_rfl) (by kernel_rfl) ll18 (fun a => congrFun e18 a)
/-! ### broker/brokerlaw40.arrive -/
noncomputable def c17 : Code := Try.f17.body.getD .skip
noncomputable def env17 : Env := mkEnv [(16, i16), (14, i14)]
abbrev ps17 : List PSh := [.io (.ow 7 (.st (.pr (.i .i64) (.pr (.i .i64) (.pr (.i .i64) (.pr (.i .i64) (.pr (.i .i64) (.pr (.i .i64) (.sl (.i .i64)))))))))) (.ow 7 (.st (.pr (.i .i64) (.pr (.i .i64) (.pr (.i .i64) (.pr (.i .i64) (.pr (.i .i64) (.pr (.i .i64) (.sl (.i .i64)))))))))), .d (.sl (.i .i64)), .d (.st (.pr (.i .i64) (.pr (.i .i64) (.pr (.i .i64) (.pr (.i .i64) (.pr (.i .i64) (.pr (.i .i64) (.pr (.i .i64) (.pr .b (.sl (.st (.pr (.i .i64) .s))))))))))))]
abbrev D17 : Type := pairD (.ty (.sl (.st (.pr (.i .i64) (.pr (.i .i64) (.pr (.i .i64) (.pr (.i .i64) (.pr (.i .i64) (.pr (.i .i64) (.pr (.i .i64) (.pr .b (.sl (.st (.pr (.i .i64) .s)))))))))))))) (osOf ps17)
noncomputable def lv17 : Nat → Option (LI D17) := fun _ => none
noncomputable def g17 (a0 : List (Int × Int × Int × Int × Int × Int × List Int)) (a1 : List Int) (a2_0 : Int) (a2_1 : Int) (a2_2 : Int) (a2_3 : Int) (a2_4 : Int) (a2_5 : Int) (a2_6 : Int) (a2_7 : Bool) (a2_8 : List (Int × List UInt8)) : Option ((List (Int × Int × Int × Int × Int × Int × Int × Bool × List (Int × List UInt8))) × List (Int × Int × Int × Int × Int × Int × List Int)) :=
  cond (a2_0 != 1)
    (cond (decide (0 ≤ a2_2) && decide (a2_2 < (↑a0.length : Int)))
      (cond (decide (a2_2.toNat < a0.length))
        (Option.bind (g16 (a0.getD a2_2.toNat (0, 0, 0, 0, 0, 0, [])).1 (a0.getD a2_2.toNat (0, 0, 0, 0, 0, 0, [])).2.1 (a0.getD a2_2.toNat (0, 0, 0, 0, 0, 0, [])).2.2.1 (a0.getD a2_2.toNat (0, 0, 0, 0, 0, 0, [])).2.2.2.1 (a0.getD a2_2.toNat (0, 0, 0, 0, 0, 0, [])).2.2.2.2.1 (a0.getD a2_2.toNat (0, 0, 0, 0, 0, 0, [])).2.2.2.2.2.1 (a0.getD a2_2.toNat (0, 0, 0, 0, 0, 0, [])).2.2.2.2.2.2 a2_0 a2_1 a2_2 a2_3 a2_4 a2_5 a2_6 a2_7 a2_8) fun v1 =>
        cond (decide (0 ≤ a2_2) && decide (a2_2 < (↑a0.length : Int)))
          (cond (decide (a2_2.toNat < a0.length))
            (some (([], a0.set a2_2.toNat v1)))
            (none))
          (none))
        (none))
      (none))
    (cond (decide (0 ≤ a2_2) && decide (a2_2 < (↑a0.length : Int)))
      (cond (decide (a2_2.toNat < a0.length))
        (cond (decide (0 ≤ a2_2) && decide (a2_2 < (↑a1.length : Int)))
          (Option.bind (g14 (a0.getD a2_2.toNat (0, 0, 0, 0, 0, 0, [])).1 (a0.getD a2_2.toNat (0, 0, 0, 0, 0, 0, [])).2.1 (a0.getD a2_2.toNat (0, 0, 0, 0, 0, 0, [])).2.2.1 (a0.getD a2_2.toNat (0, 0, 0, 0, 0, 0, [])).2.2.2.1 (a0.getD a2_2.toNat (0, 0, 0, 0, 0, 0, [])).2.2.2.2.1 (a0.getD a2_2.toNat (0, 0, 0, 0, 0, 0, [])).2.2.2.2.2.1 (a0.getD a2_2.toNat (0, 0, 0, 0, 0, 0, [])).2.2.2.2.2.2 a2_0 a2_1 a2_2 a2_3 a2_4 a2_5 a2_6 a2_7 a2_8 (a1.getD a2_2.toNat 0) 0) fun v2 =>
          cond (decide (0 ≤ a2_2) && decide (a2_2 < (↑a0.length : Int)))
            (cond (decide (a2_2.toNat < a0.length))
              (some (([v2.2], a0.set a2_2.toNat v2.1)))
              (none))
            (none))
          (none))
        (none))
      (none))
noncomputable def i17 : FI := ⟨ps17, .ty (.sl (.st (.pr (.i .i64) (.pr (.i .i64) (.pr (.i .i64) (.pr (.i .i64) (.pr (.i .i64) (.pr (.i .i64) (.pr (.i .i64) (.pr .b (.sl (.st (.pr (.i .i64) .s))))))))))))), fun (a0, a1, (a2_0, a2_1, a2_2, a2_3, a2_4, a2_5, a2_6, a2_7, a2_8)) => g17 a0 a1 a2_0 a2_1 a2_2 a2_3 a2_4 a2_5 a2_6 a2_7 a2_8⟩
theorem e17 : (fun a => i17.G a) = fnEval T Y env17 an i17.ps i17.rs true Try.f17.results.toList lv17 c17 := by kernel_rfl
theorem lo17 : loopsOf c17 = [] := by kernel_rfl
theorem ll17 : LoopsOk T Y env17 an lv17 (finO T true ps17 (.ty (.sl (.st (.pr (.i .i64) (.pr (.i .i64) (.pr (.i .i64) (.pr (.i .i64) (.pr (.i .i64) (.pr (.i .i64) (.pr (.i .i64) (.pr .b (.sl (.st (.pr (.i .i64) .s)))))))))))))) Try.f17.results.toList) c17 := loopsOk_of (by rw [lo17]; exact trivial)
theorem k17 : FnOk Try.prog 17 i17 :=
  fn_ok (T := T) (Y := Y) (an := an) (env := env17) (fr := true) (lenv := lv17) mixed tok.1 tok.2 (envCons k16 (envCons k14 (envNil))) (fn := Try.f17) (c := c17) (by kernel_rfl) (by kernel_rfl) (by kernel_rfl) ll17 (fun a => congrFun e17 a)
/-! ### broker/brokerlaw40.VoteOne -/
noncomputable def c5 : Code := Try.f5.body.getD .skip
noncomputable def env5 : Env := mkEnv [(7, i7), (8, i8), (13, i13), (17, i17), (18, i18)]
abbrev ps5 : List PSh := [.d (.i .i64), .d (.sl .u8), .d (.sl (.st (.pr (.i .i64) (.i .i64))))]
abbrev D5 : Type := pairD (.ty .b) (osOf ps5)
def ns5_3 : NS := { slots := [(7, .hw 54), (12, .hw 187), (13, .hw 103), (22, .pt 22 []), (146, .hw 54), (156, .hw 187), (0, .ty (.i .i64)), (8, .ty (.sl (.i .i64))), (21, .ty (.i .i64)), (69, .ty (.sl (.st (.pr (.i .i64) (.i .i64))))), (70, .ty (.i .i64)), (71, .ty (.i .i64)), (147, .ty (.i .i64)), (148, .ty (.i .i64)), (157, .ty (.i .i64)), (158, .ty (.i .i64))], roots := [(187, .ar 2 (.st (.pr (.i .i64) (.i .i64)))), (54, .ar 7 (.st (.pr (.i .i64) (.pr (.i .i64) (.pr (.i .i64) (.pr (.i .i64) (.pr (.i .i64) (.pr (.i .i64) (.sl (.i .i64)))))))))), (22, .ty (.st (.pr (.i .i64) (.pr (.i .i64) (.pr (.i .i64) (.pr (.i .i64) (.pr (.i .i64) (.pr (.i .i64) (.sl (.i .i64)))))))))), (103, .ar 9 (.st (.pr (.i .i64) (.pr (.i .i64) (.pr (.i .i64) (.pr (.i .i64) (.pr (.i .i64) (.pr (.i .i64) (.pr (.i .i64) (.pr .b (.sl (.st (.pr (.i .i64) .s)))))))))))))] }
def ex5_3 : List (Nat × NS) := [(6, { slots := [(7, .hw 54), (12, .hw 187), (13, .hw 103), (22, .pt 22 []), (146, .hw 54), (0, .ty (.i .i64)), (8, .ty (.sl (.i .i64))), (21, .ty (.i .i64)), (69, .ty (.sl (.st (.pr (.i .i64) (.i .i64))))), (70, .ty (.i .i64)), (71, .ty (.i .i64)), (147, .ty (.i .i64)), (148, .ty (.i .i64))], roots := [(54, .ar 7 (.st (.pr (.i .i64) (.pr (.i .i64) (.pr (.i .i64) (.pr (.i .i64) (.pr (.i .i64) (.pr (.i .i64) (.sl (.i .i64)))))))))), (22, .ty (.st (.pr (.i .i64) (.pr (.i .i64) (.pr (.i .i64) (.pr (.i .i64) (.pr (.i .i64) (.pr (.i .i64) (.sl (.i .i64)))))))))), (103, .ar 9 (.st (.pr (.i .i64) (.pr (.i .i64) (.pr (.i .i64) (.pr (.i .i64) (.pr (.i .i64) (.pr (.i .i64) (.pr (.i .i64) (.pr .b (.sl (.st (.pr (.i .i64) .s))))))))))))), (187, .ar 2 (.st (.pr (.i .i64) (.i .i64))))] })]
noncomputable def st5_3 (ih : ((Int × List Int × Int × (List (Int × Int)) × Int × Int × Int × Int × Int × Int) × ((List (Int × Int)) × (List (Int × Int × Int × Int × Int × Int × List Int)) × (Int × Int × Int × Int × Int × Int × List Int) × List (Int × Int × Int × Int × Int × Int × Int × Bool × List (Int × List UInt8)))) → Option (((Int × List Int × Int × (List (Int × Int)) × Int × Int × Int × Int) × ((List (Int × Int × Int × Int × Int × Int × List Int)) × (Int × Int × Int × Int × Int × Int × List Int) × (List (Int × Int × Int × Int × Int × Int × Int × Bool × List (Int × List UInt8))) × List (Int × Int))) ⊕ Bool)) : ((Int × List Int × Int × (List (Int × Int)) × Int × Int × Int × Int × Int × Int) × ((List (Int × Int)) × (List (Int × Int × Int × Int × Int × Int × List Int)) × (Int × Int × Int × Int × Int × Int × List Int) × List (Int × Int × Int × Int × Int × Int × Int × Bool × List (Int × List UInt8)))) → Option (((Int × List Int × Int × (List (Int × Int)) × Int × Int × Int × Int) × ((List (Int × Int × Int × Int × Int × Int × List Int)) × (Int × Int × Int × Int × Int × Int × List Int) × (List (Int × Int × Int × Int × Int × Int × Int × Bool × List (Int × List UInt8))) × List (Int × Int))) ⊕ Bool) := fun ((t0, t8, t21, t69, t70, t71, t147, t148, t157, t158), (r187, r54, (r22_0, r22_1, r22_2, r22_3, r22_4, r22_5, r22_6), r103)) =>
  cond (decide (t158 < t157))
    (cond (decide (0 ≤ t158) && decide (t158 < (↑r187.length : Int)))
      (cond (decide (t158.toNat < r187.length))
        (cond ((r187.getD t158.toNat (0, 0)).1 == r22_2)
          (cond ((r187.getD t158.toNat (0, 0)).2 != t21)
            (some (Sum.inr false))
            (ih ((t0, t8, t21, t69, t70, t71, t147, t148, t157, IntKind.i64.wrap (t158 + 1)), r187, r54, (r22_0, r22_1, r22_2, r22_3, r22_4, r22_5, r22_6), r103)))
          (ih ((t0, t8, t21, t69, t70, t71, t147, t148, t157, IntKind.i64.wrap (t158 + 1)), r187, r54, (r22_0, r22_1, r22_2, r22_3, r22_4, r22_5, r22_6), r103)))
        (none))
      (none))
    (some (Sum.inl ((t0, t8, t21, t69, t70, t71, t147, t148), r54, (r22_0, r22_1, r22_2, r22_3, r22_4, r22_5, r22_6), r103, r187)))
noncomputable def h5_3 : ((Int × List Int × Int × (List (Int × Int)) × Int × Int × Int × Int × Int × Int) × ((List (Int × Int)) × (List (Int × Int × Int × Int × Int × Int × List Int)) × (Int × Int × Int × Int × Int × Int × List Int) × List (Int × Int × Int × Int × Int × Int × Int × Bool × List (Int × List UInt8)))) → Option (((Int × List Int × Int × (List (Int × Int)) × Int × Int × Int × Int) × ((List (Int × Int × Int × Int × Int × Int × List Int)) × (Int × Int × Int × Int × Int × Int × List Int) × (List (Int × Int × Int × Int × Int × Int × Int × Bool × List (Int × List UInt8))) × List (Int × Int))) ⊕ Bool) := loopN st5_3 fuel
noncomputable def l5_3 : LI D5 := ⟨ns5_3, ex5_3, h5_3⟩
def ns5_2 : NS := { slots := [(7, .hw 54), (12, .hw 187), (13, .hw 103), (146, .hw 54), (0, .ty (.i .i64)), (8, .ty (.sl (.i .i64))), (69, .ty (.sl (.st (.pr (.i .i64) (.i .i64))))), (70, .ty (.i .i64)), (71, .ty (.i .i64)), (147, .ty (.i .i64)), (148, .ty (.i .i64))], roots := [(103, .ar 9 (.st (.pr (.i .i64) (.pr (.i .i64) (.pr (.i .i64) (.pr (.i .i64) (.pr (.i .i64) (.pr (.i .i64) (.pr (.i .i64) (.pr .b (.sl (.st (.pr (.i .i64) .s))))))))))))), (54, .ar 7 (.st (.pr (.i .i64) (.pr (.i .i64) (.pr (.i .i64) (.pr (.i .i64) (.pr (.i .i64) (.pr (.i .i64) (.sl (.i .i64)))))))))), (187, .ar 2 (.st (.pr (.i .i64) (.i .i64))))], ad := [{ t := 13, path := [], g := 103, d := 9, τ := (.st (.pr (.i .i64) (.pr (.i .i64) (.pr (.i .i64) (.pr (.i .i64) (.pr (.i .i64) (.pr (.i .i64) (.pr (.i .i64) (.pr .b (.sl (.st (.pr (.i .i64) .s))))))))))) : Ty) }] }
def ex5_2 : List (Nat × NS) := [(4, { slots := [(7, .hw 54), (12, .hw 187), (13, .hw 103), (0, .ty (.i .i64)), (8, .ty (.sl (.i .i64))), (69, .ty (.sl (.st (.pr (.i .i64) (.i .i64))))), (70, .ty (.i .i64)), (71, .ty (.i .i64))], roots := [(103, .ar 9 (.st (.pr (.i .i64) (.pr (.i .i64) (.pr (.i .i64) (.pr (.i .i64) (.pr (.i .i64) (.pr (.i .i64) (.pr (.i .i64) (.pr .b (.sl (.st (.pr (.i .i64) .s))))))))))))), (187, .ar 2 (.st (.pr (.i .i64) (.i .i64)))), (54, .ar 7 (.st (.pr (.i .i64) (.pr (.i .i64) (.pr (.i .i64) (.pr (.i .i64) (.pr (.i .i64) (.pr (.i .i64) (.sl (.i .i64))))))))))] })]
noncomputable def st5_2 (ih : ((Int × List Int × (List (Int × Int)) × Int × Int × Int × Int) × ((List (Int × Int × Int × Int × Int × Int × Int × Bool × List (Int × List UInt8))) × (List (Int × Int × Int × Int × Int × Int × List Int)) × List (Int × Int))) → Option (((Int × List Int × (List (Int × Int)) × Int × Int) × ((List (Int × Int × Int × Int × Int × Int × Int × Bool × List (Int × List UInt8))) × (List (Int × Int)) × List (Int × Int × Int × Int × Int × Int × List Int))) ⊕ Bool)) : ((Int × List Int × (List (Int × Int)) × Int × Int × Int × Int) × ((List (Int × Int × Int × Int × Int × Int × Int × Bool × List (Int × List UInt8))) × (List (Int × Int × Int × Int × Int × Int × List Int)) × List (Int × Int))) → Option (((Int × List Int × (List (Int × Int)) × Int × Int) × ((List (Int × Int × Int × Int × Int × Int × Int × Bool × List (Int × List UInt8))) × (List (Int × Int)) × List (Int × Int × Int × Int × Int × Int × List Int))) ⊕ Bool) := fun ((t0, t8, t69, t70, t71, t147, t148), (r103, r54, r187)) =>
  cond (decide (t148 < t147))
    (cond (decide (0 ≤ t148) && decide (t148 < (↑r54.length : Int)))
      (cond (decide (t148.toNat < r54.length))
        (cond ((r54.getD t148.toNat (0, 0, 0, 0, 0, 0, [])).2.2.2.1 != 2)
          (ih ((t0, t8, t69, t70, t71, t147, IntKind.i64.wrap (t148 + 1)), r103, r54, r187))
          (Option.bind (h5_3 ((t0, t8, t148, t69, t70, t71, t147, t148, (↑r187.length : Int), 0), r187, r54, r54.getD t148.toNat (0, 0, 0, 0, 0, 0, []), r103)) fun v1 =>
          match v1 with
          | .inl x2 =>
            Option.bind (g18 x2.2.2.2.2 x2.2.2.1.2.2.1 x2.1.2.2.1) fun v3 =>
            cond (!v3)
              (cond (decide (List.length x2.2.2.2.2 + 1 ≤ 2147483647))
                (ih ((x2.1.1, x2.1.2.1, x2.1.2.2.2.1, x2.1.2.2.2.2.1, x2.1.2.2.2.2.2.1, x2.1.2.2.2.2.2.2.1, IntKind.i64.wrap (x2.1.2.2.2.2.2.2.2 + 1)), x2.2.2.2.1, x2.2.1, x2.2.2.2.2 ++ [(x2.2.2.1.2.2.1, x2.1.2.2.1)]))
                (none))
              (ih ((x2.1.1, x2.1.2.1, x2.1.2.2.2.1, x2.1.2.2.2.2.1, x2.1.2.2.2.2.2.1, x2.1.2.2.2.2.2.2.1, IntKind.i64.wrap (x2.1.2.2.2.2.2.2.2 + 1)), x2.2.2.2.1, x2.2.1, x2.2.2.2.2))
          | .inr x2 =>
            some (Sum.inr x2)))
        (none))
      (none))
    (some (Sum.inl ((t0, t8, t69, t70, t71), r103, r187, r54)))
noncomputable def h5_2 : ((Int × List Int × (List (Int × Int)) × Int × Int × Int × Int) × ((List (Int × Int × Int × Int × Int × Int × Int × Bool × List (Int × List UInt8))) × (List (Int × Int × Int × Int × Int × Int × List Int)) × List (Int × Int))) → Option (((Int × List Int × (List (Int × Int)) × Int × Int) × ((List (Int × Int × Int × Int × Int × Int × Int × Bool × List (Int × List UInt8))) × (List (Int × Int)) × List (Int × Int × Int × Int × Int × Int × List Int))) ⊕ Bool) := loopN st5_2 fuel
noncomputable def l5_2 : LI D5 := ⟨ns5_2, ex5_2, h5_2⟩
def ns5_1 : NS := { slots := [(7, .hw 54), (12, .hw 187), (13, .hw 127), (0, .ty (.i .i64)), (8, .ty (.sl (.i .i64))), (69, .ty (.sl (.st (.pr (.i .i64) (.i .i64))))), (70, .ty (.i .i64)), (71, .ty (.i .i64))], roots := [(187, .ar 2 (.st (.pr (.i .i64) (.i .i64)))), (127, .ar 9 (.st (.pr (.i .i64) (.pr (.i .i64) (.pr (.i .i64) (.pr (.i .i64) (.pr (.i .i64) (.pr (.i .i64) (.pr (.i .i64) (.pr .b (.sl (.st (.pr (.i .i64) .s))))))))))))), (54, .ar 7 (.st (.pr (.i .i64) (.pr (.i .i64) (.pr (.i .i64) (.pr (.i .i64) (.pr (.i .i64) (.pr (.i .i64) (.sl (.i .i64))))))))))], fr := [8], ad := [{ t := 12, path := [], g := 187, d := 2, τ := (.st (.pr (.i .i64) (.i .i64)) : Ty) }, { t := 13, path := [], g := 127, d := 9, τ := (.st (.pr (.i .i64) (.pr (.i .i64) (.pr (.i .i64) (.pr (.i .i64) (.pr (.i .i64) (.pr (.i .i64) (.pr (.i .i64) (.pr .b (.sl (.st (.pr (.i .i64) .s))))))))))) : Ty) }] }
def ex5_1 : List (Nat × NS) := [(2, { slots := [], roots := [] })]
noncomputable def st5_1 (ih : ((Int × List Int × (List (Int × Int)) × Int × Int) × ((List (Int × Int)) × (List (Int × Int × Int × Int × Int × Int × Int × Bool × List (Int × List UInt8))) × List (Int × Int × Int × Int × Int × Int × List Int))) → Option (((Unit) × (Unit)) ⊕ Bool)) : ((Int × List Int × (List (Int × Int)) × Int × Int) × ((List (Int × Int)) × (List (Int × Int × Int × Int × Int × Int × Int × Bool × List (Int × List UInt8))) × List (Int × Int × Int × Int × Int × Int × List Int))) → Option (((Unit) × (Unit)) ⊕ Bool) := fun ((t0, t8, t69, t70, t71), (r187, r127, r54)) =>
  cond (decide (t71 < t70))
    (cond (decide (0 ≤ t71) && decide (t71 < (↑t69.length : Int)))
      (cond (decide ((t69.getD t71.toNat (0, 0)).2 < 0))
        (ih ((t0, t8, t69, t70, IntKind.i64.wrap (t71 + 1)), r187, r127, r54))
        (cond ((t69.getD t71.toNat (0, 0)).1 == 0)
          (cond (!decide (t0 = 0))
            (cond (decide (0 ≤ Int.tmod (t69.getD t71.toNat (0, 0)).2 t0) && decide (Int.tmod (t69.getD t71.toNat (0, 0)).2 t0 < (↑r54.length : Int)))
              (cond (decide ((Int.tmod (t69.getD t71.toNat (0, 0)).2 t0).toNat < r54.length))
                (cond (decide (0 ≤ Int.tmod (t69.getD t71.toNat (0, 0)).2 t0) && decide (Int.tmod (t69.getD t71.toNat (0, 0)).2 t0 < (↑t8.length : Int)))
                  (Option.bind (g13 (r54.getD (Int.tmod (t69.getD t71.toNat (0, 0)).2 t0).toNat (0, 0, 0, 0, 0, 0, [])).1 (r54.getD (Int.tmod (t69.getD t71.toNat (0, 0)).2 t0).toNat (0, 0, 0, 0, 0, 0, [])).2.1 (r54.getD (Int.tmod (t69.getD t71.toNat (0, 0)).2 t0).toNat (0, 0, 0, 0, 0, 0, [])).2.2.1 (r54.getD (Int.tmod (t69.getD t71.toNat (0, 0)).2 t0).toNat (0, 0, 0, 0, 0, 0, [])).2.2.2.1 (r54.getD (Int.tmod (t69.getD t71.toNat (0, 0)).2 t0).toNat (0, 0, 0, 0, 0, 0, [])).2.2.2.2.1 (r54.getD (Int.tmod (t69.getD t71.toNat (0, 0)).2 t0).toNat (0, 0, 0, 0, 0, 0, [])).2.2.2.2.2.1 (r54.getD (Int.tmod (t69.getD t71.toNat (0, 0)).2 t0).toNat (0, 0, 0, 0, 0, 0, [])).2.2.2.2.2.2 (t8.getD (Int.tmod (t69.getD t71.toNat (0, 0)).2 t0).toNat 0) 0) fun v1 =>
                  cond (decide (0 ≤ Int.tmod (t69.getD t71.toNat (0, 0)).2 t0) && decide (Int.tmod (t69.getD t71.toNat (0, 0)).2 t0 < (↑r54.length : Int)))
                    (cond (decide ((Int.tmod (t69.getD t71.toNat (0, 0)).2 t0).toNat < r54.length))
                      (cond (decide (r127.length + List.length v1.2 ≤ 2147483647))
                        (Option.bind (h5_2 ((t0, t8, t69, t70, t71, (↑(r54.set (Int.tmod (t69.getD t71.toNat (0, 0)).2 t0).toNat v1.1).length : Int), 0), r127 ++ v1.2, r54.set (Int.tmod (t69.getD t71.toNat (0, 0)).2 t0).toNat v1.1, r187)) fun v2 =>
                        match v2 with
                        | .inl x3 =>
                          ih ((x3.1.1, x3.1.2.1, x3.1.2.2.1, x3.1.2.2.2.1, IntKind.i64.wrap (x3.1.2.2.2.2 + 1)), x3.2.2.1, x3.2.1, x3.2.2.2)
                        | .inr x3 =>
                          some (Sum.inr x3))
                        (none))
                      (none))
                    (none))
                  (none))
                (none))
              (none))
            (none))
          (cond (decide ((↑r127.length : Int) > 0))
            (cond (!decide ((↑r127.length : Int) = 0))
              (cond (decide (0 ≤ Int.tmod (t69.getD t71.toNat (0, 0)).2 (↑r127.length : Int)) && decide (Int.tmod (t69.getD t71.toNat (0, 0)).2 (↑r127.length : Int) < (↑r127.length : Int)))
                (cond (decide ((Int.tmod (t69.getD t71.toNat (0, 0)).2 (↑r127.length : Int)).toNat < r127.length))
                  (cond ((t69.getD t71.toNat (0, 0)).1 != 2)
                    (cond (decide (0 ≤ Int.tmod (t69.getD t71.toNat (0, 0)).2 (↑r127.length : Int)) && decide (Int.tmod (t69.getD t71.toNat (0, 0)).2 (↑r127.length : Int) ≤ (↑r127.length : Int)) && decide (Int.tmod (t69.getD t71.toNat (0, 0)).2 (↑r127.length : Int) = (↑(Int.tmod (t69.getD t71.toNat (0, 0)).2 (↑r127.length : Int)).toNat : Int)))
                      (cond (decide (0 ≤ IntKind.i64.wrap (Int.tmod (t69.getD t71.toNat (0, 0)).2 (↑r127.length : Int) + 1)) && decide (IntKind.i64.wrap (Int.tmod (t69.getD t71.toNat (0, 0)).2 (↑r127.length : Int) + 1) ≤ (↑r127.length : Int)) && true)
                        (cond (decide ((Int.tmod (t69.getD t71.toNat (0, 0)).2 (↑r127.length : Int)).toNat - 0 + (List.take (r127.length - (IntKind.i64.wrap (Int.tmod (t69.getD t71.toNat (0, 0)).2 (↑r127.length : Int) + 1)).toNat) (List.drop (IntKind.i64.wrap (Int.tmod (t69.getD t71.toNat (0, 0)).2 (↑r127.length : Int) + 1)).toNat r127)).length ≤ 2147483647))
                          (cond ((t69.getD t71.toNat (0, 0)).1 == 3)
                            (ih ((t0, t8, t69, t70, IntKind.i64.wrap (t71 + 1)), r187, List.take ((Int.tmod (t69.getD t71.toNat (0, 0)).2 (↑r127.length : Int)).toNat - 0) (List.drop 0 r127) ++ List.take (r127.length - (IntKind.i64.wrap (Int.tmod (t69.getD t71.toNat (0, 0)).2 (↑r127.length : Int) + 1)).toNat) (List.drop (IntKind.i64.wrap (Int.tmod (t69.getD t71.toNat (0, 0)).2 (↑r127.length : Int) + 1)).toNat r127), r54))
                            (cond (decide ((r127.getD (Int.tmod (t69.getD t71.toNat (0, 0)).2 (↑r127.length : Int)).toNat (0, 0, 0, 0, 0, 0, 0, false, [])).2.2.1 < 0))
                              (some (Sum.inr false))
                              (cond (decide ((r127.getD (Int.tmod (t69.getD t71.toNat (0, 0)).2 (↑r127.length : Int)).toNat (0, 0, 0, 0, 0, 0, 0, false, [])).2.2.1 ≥ t0))
                                (some (Sum.inr false))
                                (Option.bind (g17 r54 t8 (r127.getD (Int.tmod (t69.getD t71.toNat (0, 0)).2 (↑r127.length : Int)).toNat (0, 0, 0, 0, 0, 0, 0, false, [])).1 (r127.getD (Int.tmod (t69.getD t71.toNat (0, 0)).2 (↑r127.length : Int)).toNat (0, 0, 0, 0, 0, 0, 0, false, [])).2.1 (r127.getD (Int.tmod (t69.getD t71.toNat (0, 0)).2 (↑r127.length : Int)).toNat (0, 0, 0, 0, 0, 0, 0, false, [])).2.2.1 (r127.getD (Int.tmod (t69.getD t71.toNat (0, 0)).2 (↑r127.length : Int)).toNat (0, 0, 0, 0, 0, 0, 0, false, [])).2.2.2.1 (r127.getD (Int.tmod (t69.getD t71.toNat (0, 0)).2 (↑r127.length : Int)).toNat (0, 0, 0, 0, 0, 0, 0, false, [])).2.2.2.2.1 (r127.getD (Int.tmod (t69.getD t71.toNat (0, 0)).2 (↑r127.length : Int)).toNat (0, 0, 0, 0, 0, 0, 0, false, [])).2.2.2.2.2.1 (r127.getD (Int.tmod (t69.getD t71.toNat (0, 0)).2 (↑r127.length : Int)).toNat (0, 0, 0, 0, 0, 0, 0, false, [])).2.2.2.2.2.2.1 (r127.getD (Int.tmod (t69.getD t71.toNat (0, 0)).2 (↑r127.length : Int)).toNat (0, 0, 0, 0, 0, 0, 0, false, [])).2.2.2.2.2.2.2.1 (r127.getD (Int.tmod (t69.getD t71.toNat (0, 0)).2 (↑r127.length : Int)).toNat (0, 0, 0, 0, 0, 0, 0, false, [])).2.2.2.2.2.2.2.2) fun v4 =>
                                cond (List.length v4.2 == r54.length && true)
                                  (cond (decide ((List.take ((Int.tmod (t69.getD t71.toNat (0, 0)).2 (↑r127.length : Int)).toNat - 0) (List.drop 0 r127) ++ List.take (r127.length - (IntKind.i64.wrap (Int.tmod (t69.getD t71.toNat (0, 0)).2 (↑r127.length : Int) + 1)).toNat) (List.drop (IntKind.i64.wrap (Int.tmod (t69.getD t71.toNat (0, 0)).2 (↑r127.length : Int) + 1)).toNat r127)).length + List.length v4.1 ≤ 2147483647))
                                    (Option.bind (h5_2 ((t0, t8, t69, t70, t71, (↑(List.length v4.2) : Int), 0), List.take ((Int.tmod (t69.getD t71.toNat (0, 0)).2 (↑r127.length : Int)).toNat - 0) (List.drop 0 r127) ++ List.take (r127.length - (IntKind.i64.wrap (Int.tmod (t69.getD t71.toNat (0, 0)).2 (↑r127.length : Int) + 1)).toNat) (List.drop (IntKind.i64.wrap (Int.tmod (t69.getD t71.toNat (0, 0)).2 (↑r127.length : Int) + 1)).toNat r127) ++ v4.1, v4.2, r187)) fun v5 =>
                                    match v5 with
                                    | .inl x6 =>
                                      ih ((x6.1.1, x6.1.2.1, x6.1.2.2.1, x6.1.2.2.2.1, IntKind.i64.wrap (x6.1.2.2.2.2 + 1)), x6.2.2.1, x6.2.1, x6.2.2.2)
                                    | .inr x6 =>
                                      some (Sum.inr x6))
                                    (none))
                                  (none)))))
                          (none))
                        (none))
                      (none))
                    (cond ((t69.getD t71.toNat (0, 0)).1 == 3)
                      (ih ((t0, t8, t69, t70, IntKind.i64.wrap (t71 + 1)), r187, r127, r54))
                      (cond (decide ((r127.getD (Int.tmod (t69.getD t71.toNat (0, 0)).2 (↑r127.length : Int)).toNat (0, 0, 0, 0, 0, 0, 0, false, [])).2.2.1 < 0))
                        (some (Sum.inr false))
                        (cond (decide ((r127.getD (Int.tmod (t69.getD t71.toNat (0, 0)).2 (↑r127.length : Int)).toNat (0, 0, 0, 0, 0, 0, 0, false, [])).2.2.1 ≥ t0))
                          (some (Sum.inr false))
                          (Option.bind (g17 r54 t8 (r127.getD (Int.tmod (t69.getD t71.toNat (0, 0)).2 (↑r127.length : Int)).toNat (0, 0, 0, 0, 0, 0, 0, false, [])).1 (r127.getD (Int.tmod (t69.getD t71.toNat (0, 0)).2 (↑r127.length : Int)).toNat (0, 0, 0, 0, 0, 0, 0, false, [])).2.1 (r127.getD (Int.tmod (t69.getD t71.toNat (0, 0)).2 (↑r127.length : Int)).toNat (0, 0, 0, 0, 0, 0, 0, false, [])).2.2.1 (r127.getD (Int.tmod (t69.getD t71.toNat (0, 0)).2 (↑r127.length : Int)).toNat (0, 0, 0, 0, 0, 0, 0, false, [])).2.2.2.1 (r127.getD (Int.tmod (t69.getD t71.toNat (0, 0)).2 (↑r127.length : Int)).toNat (0, 0, 0, 0, 0, 0, 0, false, [])).2.2.2.2.1 (r127.getD (Int.tmod (t69.getD t71.toNat (0, 0)).2 (↑r127.length : Int)).toNat (0, 0, 0, 0, 0, 0, 0, false, [])).2.2.2.2.2.1 (r127.getD (Int.tmod (t69.getD t71.toNat (0, 0)).2 (↑r127.length : Int)).toNat (0, 0, 0, 0, 0, 0, 0, false, [])).2.2.2.2.2.2.1 (r127.getD (Int.tmod (t69.getD t71.toNat (0, 0)).2 (↑r127.length : Int)).toNat (0, 0, 0, 0, 0, 0, 0, false, [])).2.2.2.2.2.2.2.1 (r127.getD (Int.tmod (t69.getD t71.toNat (0, 0)).2 (↑r127.length : Int)).toNat (0, 0, 0, 0, 0, 0, 0, false, [])).2.2.2.2.2.2.2.2) fun v7 =>
                          cond (List.length v7.2 == r54.length && true)
                            (cond (decide (r127.length + List.length v7.1 ≤ 2147483647))
                              (Option.bind (h5_2 ((t0, t8, t69, t70, t71, (↑(List.length v7.2) : Int), 0), r127 ++ v7.1, v7.2, r187)) fun v8 =>
                              match v8 with
                              | .inl x9 =>
                                ih ((x9.1.1, x9.1.2.1, x9.1.2.2.1, x9.1.2.2.2.1, IntKind.i64.wrap (x9.1.2.2.2.2 + 1)), x9.2.2.1, x9.2.1, x9.2.2.2)
                              | .inr x9 =>
                                some (Sum.inr x9))
                              (none))
                            (none))))))
                  (none))
                (none))
              (none))
            (Option.bind (h5_2 ((t0, t8, t69, t70, t71, (↑r54.length : Int), 0), r127, r54, r187)) fun v10 =>
            match v10 with
            | .inl x11 =>
              ih ((x11.1.1, x11.1.2.1, x11.1.2.2.1, x11.1.2.2.2.1, IntKind.i64.wrap (x11.1.2.2.2.2 + 1)), x11.2.2.1, x11.2.1, x11.2.2.2)
            | .inr x11 =>
              some (Sum.inr x11)))))
      (none))
    (some (Sum.inl ((), ())))
noncomputable def h5_1 : ((Int × List Int × (List (Int × Int)) × Int × Int) × ((List (Int × Int)) × (List (Int × Int × Int × Int × Int × Int × Int × Bool × List (Int × List UInt8))) × List (Int × Int × Int × Int × Int × Int × List Int))) → Option (((Unit) × (Unit)) ⊕ Bool) := loopN st5_1 fuel
noncomputable def l5_1 : LI D5 := ⟨ns5_1, ex5_1, h5_1⟩
def ns5_0 : NS := { slots := [(7, .hw 54), (8, .hw 38), (0, .ty (.i .i64)), (1, .ty (.sl .u8)), (2, .ty (.sl (.st (.pr (.i .i64) (.i .i64))))), (39, .ty (.i .i64)), (40, .ty (.i .i64))], roots := [(54, .ar 7 (.st (.pr (.i .i64) (.pr (.i .i64) (.pr (.i .i64) (.pr (.i .i64) (.pr (.i .i64) (.pr (.i .i64) (.sl (.i .i64)))))))))), (38, .ar 1 (.i .i64))], ad := [{ t := 7, path := [], g := 54, d := 7, τ := (.st (.pr (.i .i64) (.pr (.i .i64) (.pr (.i .i64) (.pr (.i .i64) (.pr (.i .i64) (.pr (.i .i64) (.sl (.i .i64)))))))) : Ty) }] }
def ex5_0 : List (Nat × NS) := [(0, { slots := [(7, .hw 54), (8, .hw 38), (0, .ty (.i .i64)), (2, .ty (.sl (.st (.pr (.i .i64) (.i .i64)))))], roots := [(38, .ar 1 (.i .i64)), (54, .ar 7 (.st (.pr (.i .i64) (.pr (.i .i64) (.pr (.i .i64) (.pr (.i .i64) (.pr (.i .i64) (.pr (.i .i64) (.sl (.i .i64))))))))))] })]
noncomputable def st5_0 (ih : ((Int × List UInt8 × (List (Int × Int)) × Int × Int) × ((List (Int × Int × Int × Int × Int × Int × List Int)) × List Int)) → Option (((Int × List (Int × Int)) × (List Int × List (Int × Int × Int × Int × Int × Int × List Int))) ⊕ Bool)) : ((Int × List UInt8 × (List (Int × Int)) × Int × Int) × ((List (Int × Int × Int × Int × Int × Int × List Int)) × List Int)) → Option (((Int × List (Int × Int)) × (List Int × List (Int × Int × Int × Int × Int × Int × List Int))) ⊕ Bool) := fun ((t0, t1, t2, t39, t40), (r54, r38)) =>
  cond (decide (t40 < t39))
    (Option.bind (g8 t40 t0) fun v1 =>
    cond (v1.2 != 0)
      (some (Sum.inr false))
      (cond (decide (r54.length + 1 ≤ 2147483647))
        (cond (decide (t40 < (↑t1.length : Int)))
          (cond (decide (0 ≤ t40) && decide (t40 < (↑t1.length : Int)))
            (cond (decide (0 ≤ t40) && decide (t40 < (↑r38.length : Int)))
              (cond (decide (t40.toNat < r38.length))
                (ih ((t0, t1, t2, t39, IntKind.i64.wrap (t40 + 1)), r54 ++ [v1.1], r38.set t40.toNat ((IntKind.i64.wrap (↑(t1.getD t40.toNat 0).toNat : Int)).tmod 4)))
                (none))
              (none))
            (none))
          (ih ((t0, t1, t2, t39, IntKind.i64.wrap (t40 + 1)), r54 ++ [v1.1], r38)))
        (none)))
    (some (Sum.inl ((t0, t2), r38, r54)))
noncomputable def h5_0 : ((Int × List UInt8 × (List (Int × Int)) × Int × Int) × ((List (Int × Int × Int × Int × Int × Int × List Int)) × List Int)) → Option (((Int × List (Int × Int)) × (List Int × List (Int × Int × Int × Int × Int × Int × List Int))) ⊕ Bool) := loopN st5_0 fuel
noncomputable def l5_0 : LI D5 := ⟨ns5_0, ex5_0, h5_0⟩
noncomputable def lv5 : Nat → Option (LI D5) := fun q => if q = 6 then some l5_0 else (fun q => if q = 18 then some l5_1 else (fun q => if q = 36 then some l5_2 else (fun q => if q = 40 then some l5_3 else (fun _ => none) q) q) q) q
noncomputable def g5 (a0 : Int) (a1 : List UInt8) (a2 : List (Int × Int)) : Option (Bool) :=
  cond (decide (a0 < 1))
    (Option.bind (g7) fun v1 =>
    some (v1))
    (cond (decide (a0 > 7))
      (Option.bind (g7) fun v2 =>
      some (v2))
      (cond (decide ((↑a2.length : Int) > 200))
        (Option.bind (g7) fun v3 =>
        some (v3))
        (cond (decide (0 ≤ a0) && decide (a0 ≤ a0) && decide (a0 ≤ 2147483647))
          (Option.bind (h5_0 ((a0, a1, a2, a0, 0), [], List.replicate a0.toNat 0)) fun v4 =>
          match v4 with
          | .inl x5 =>
            Option.bind (h5_1 ((x5.1.1, x5.2.1, x5.1.2, (↑(List.length x5.1.2) : Int), 0), [], [], x5.2.2)) fun v6 =>
            match v6 with
            | .inl x7 =>
              Option.bind (g7) fun v8 =>
              some (v8)
            | .inr x7 =>
              some (x7)
          | .inr x5 =>
            some (x5))
          (none))))
noncomputable def i5 : FI := ⟨ps5, .ty .b, fun (a0, a1, a2) => g5 a0 a1 a2⟩
theorem s5_3 : st5_3 = stepEval T Y env5 an lv5 (finO T true ps5 (.ty .b) Try.f5.results.toList) (loopAt c5 3) ns5_3 ex5_3 := by kernel_rfl
theorem s5_2 : st5_2 = stepEval T Y env5 an lv5 (finO T true ps5 (.ty .b) Try.f5.results.toList) (loopAt c5 2) ns5_2 ex5_2 := by kernel_rfl
theorem s5_1 : st5_1 = stepEval T Y env5 an lv5 (finO T true ps5 (.ty .b) Try.f5.results.toList) (loopAt c5 1) ns5_1 ex5_1 := by kernel_rfl
theorem s5_0 : st5_0 = stepEval T Y env5 an lv5 (finO T true ps5 (.ty .b) Try.f5.results.toList) (loopAt c5 0) ns5_0 ex5_0 := by kernel_rfl
theorem e5 : (fun a => i5.G a) = fnEval T Y env5 an i5.ps i5.rs true Try.f5.results.toList lv5 c5 := by kernel_rfl
theorem lo5 : loopsOf c5 = [loopAt c5 0, loopAt c5 1, loopAt c5 2, loopAt c5 3] := by kernel_rfl
theorem ll5 : LoopsOk T Y env5 an lv5 (finO T true ps5 (.ty .b) Try.f5.results.toList) c5 := loopsOk_of (by rw [lo5]; exact ⟨loop1 (li := l5_0) (by kernel_rfl) (by kernel_rfl) s5_0, ⟨loop1 (li := l5_1) (by kernel_rfl) (by kernel_rfl) s5_1, ⟨loop1 (li := l5_2) (by kernel_rfl) (by kernel_rfl) s5_2, ⟨loop1 (li := l5_3) (by kernel_rfl) (by kernel_rfl) s5_3, trivial⟩⟩⟩⟩)
theorem k5 : FnOk Try.prog 5 i5 :=
  fn_ok (T := T) (Y := Y) (an := an) (env := env5) (fr := true) (lenv := lv5) mixed tok.1 tok.2 (envCons k7 (envCons k8 (envCons k13 (envCons k17 (envCons k18 (envNil)))))) (fn := Try.f5) (c := c5) (by kernel_rfl) (by kernel_rfl) (by kernel_rfl) ll5 (fun a => congrFun e5 a)
end Go.Proofs.Ytehjeifbgegabaa.EVT
