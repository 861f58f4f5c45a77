/- What functions compute, as printed (U, part I). -/
import Derived.Test.YtbncnkchedhnpaaUS
set_option linter.unusedVariables false
set_option maxRecDepth 100000
set_option maxHeartbeats 0
namespace Go.Proofs.Ytbncnkchedhnpaa.EVT
open Go Go.EV
/-! ### broker/index.Find -/
noncomputable def c49 : Code := Try.f49.body.getD .skip
noncomputable def env49 : Env := mkEnv []
abbrev ps49 : List PSh := [.d (.sl (.st (.pr (.i .i64) (.i .i64)))), .d (.i .i64)]
abbrev D49 : Type := pairD (.tup (.pr (.ty (.st (.pr (.i .i64) (.i .i64)))) (.ty .b))) (osOf ps49)
def ns49_0 : NS := { slots := [(4, .pt 4 []), (0, .ty (.sl (.st (.pr (.i .i64) (.i .i64))))), (1, .ty (.i .i64)), (6, .ty (.i .i64))], roots := [(4, .ty (.st (.pr (.i .i64) (.i .i64))))] }
def ex49_0 : List (Nat × NS) := [(0, { slots := [(4, .pt 4 [])], roots := [(4, .ty (.st (.pr (.i .i64) (.i .i64))))] })]
noncomputable def st49_0 (ih : (((List (Int × Int)) × Int × Int) × (Int × Int)) → Option (((Unit) × (Int × Int)) ⊕ (((Int × Int) × Bool)))) : (((List (Int × Int)) × Int × Int) × (Int × Int)) → Option (((Unit) × (Int × Int)) ⊕ (((Int × Int) × Bool))) := fun ((t0, t1, t6), (r4_0, r4_1)) =>
  cond (decide (t6 ≥ 0))
    (cond (decide (0 ≤ t6) && decide (t6 < (↑t0.length : Int)))
      (cond (decide ((t0.getD t6.toNat (0, 0)).1 ≤ t1))
        (cond (decide (0 ≤ t6) && decide (t6 < (↑t0.length : Int)))
          (some (Sum.inr (t0.getD t6.toNat (0, 0), true)))
          (none))
        (ih ((t0, t1, IntKind.i64.wrap (t6 - 1)), r4_0, r4_1)))
      (none))
    (some (Sum.inl ((), r4_0, r4_1)))
noncomputable def h49_0 : (((List (Int × Int)) × Int × Int) × (Int × Int)) → Option (((Unit) × (Int × Int)) ⊕ (((Int × Int) × Bool))) := loopN st49_0 fuel
noncomputable def l49_0 : LI D49 := ⟨ns49_0, ex49_0, h49_0⟩
noncomputable def lv49 : Nat → Option (LI D49) := fun q => if q = 2 then some l49_0 else (fun _ => none) q
noncomputable def g49 (a0 : List (Int × Int)) (a1 : Int) : Option ((Int × Int) × Bool) :=
  Option.bind (h49_0 ((a0, a1, IntKind.i64.wrap ((↑a0.length : Int) - 1)), 0, 0)) fun v1 =>
  match v1 with
  | .inl x2 =>
    some (((0, 0), false))
  | .inr x2 =>
    some (x2)
noncomputable def i49 : FI := ⟨ps49, .tup (.pr (.ty (.st (.pr (.i .i64) (.i .i64)))) (.ty .b)), fun (a0, a1) => g49 a0 a1⟩
theorem s49_0 : st49_0 = stepEval T Y env49 an lv49 (finO T true ps49 (.tup (.pr (.ty (.st (.pr (.i .i64) (.i .i64)))) (.ty .b))) Try.f49.results.toList) (loopAt c49 0) ns49_0 ex49_0 := by kernel_rfl
theorem e49 : (fun a => i49.G a) = fnEval T Y env49 an i49.ps i49.rs true Try.f49.results.toList lv49 c49 := by kernel_rfl
theorem lo49 : loopsOf c49 = [loopAt c49 0] := by kernel_rfl
theorem ll49 : LoopsOk T Y env49 an lv49 (finO T true ps49 (.tup (.pr (.ty (.st (.pr (.i .i64) (.i .i64)))) (.ty .b))) Try.f49.results.toList) c49 := loopsOk_of (by rw [lo49]; exact ⟨loop1 (li := l49_0) (by kernel_rfl) (by kernel_rfl) s49_0, trivial⟩)
theorem k49 : FnOk Try.prog 49 i49 :=
  fn_ok (T := T) (Y := Y) (an := an) (env := env49) (fr := true) (lenv := lv49) mixed tok.1 tok.2 (envNil) (fn := Try.f49) (c := c49) (by kernel_rfl) (by kernel_rfl) (by kernel_rfl) ll49 (fun a => congrFun e49 a)
/-! ### broker/index.Read -/
noncomputable def c32 : Code := Try.f32.body.getD .skip
noncomputable def env32 : Env := mkEnv [(49, i49), (50, i50)]
abbrev ps32 : List PSh := [.d (.st (.pr (.i .i64) (.pr (.i .i64) (.sl .u8)))), .d (.sl (.st (.pr (.i .i64) (.i .i64)))), .d (.i .i64), .d (.i .i64)]
abbrev D32 : Type := pairD (.ty (.sl (.st (.pr (.i .i64) (.pr (.i .i64) (.pr .s .s)))))) (osOf ps32)
def ns32_0 : NS := { slots := [(4, .pt 4 []), (11, .hw 52), (2, .ty (.i .i64)), (3, .ty (.i .i64)), (12, .ty (.i .i64))], roots := [(52, .ar 4 (.st (.pr (.i .i64) (.pr (.i .i64) (.pr .s .s))))), (4, .ty (.st (.pr (.i .i64) (.pr (.i .i64) (.sl .u8)))))], ad := [{ t := 11, path := [], g := 52, d := 4, τ := (.st (.pr (.i .i64) (.pr (.i .i64) (.pr .s .s))) : Ty) }] }
def ex32_0 : List (Nat × NS) := [(0, { slots := [(11, .hw 52)], roots := [(52, .ar 4 (.st (.pr (.i .i64) (.pr (.i .i64) (.pr .s .s)))))] })]
noncomputable def st32_0 (ih : ((Int × Int × Int) × ((List (Int × Int × List UInt8 × List UInt8)) × Int × Int × List UInt8)) → Option (((Unit) × (List (Int × Int × List UInt8 × List UInt8))) ⊕ ((List (Int × Int × List UInt8 × List UInt8))))) : ((Int × Int × Int) × ((List (Int × Int × List UInt8 × List UInt8)) × Int × Int × List UInt8)) → Option (((Unit) × (List (Int × Int × List UInt8 × List UInt8))) ⊕ ((List (Int × Int × List UInt8 × List UInt8)))) := fun ((t2, t3, t12), (r52, (r4_0, r4_1, r4_2))) =>
  cond (decide (t12 < (↑r4_2.length : Int)))
    (cond (decide ((↑r52.length : Int) < t3))
      (Option.bind (g50 r4_2 t12) fun v1 =>
      cond (v1.2.2 != 0)
        (some (Sum.inl ((), r52)))
        (cond (decide (v1.1.1 ≥ t2))
          (cond (decide (r52.length + 1 ≤ 2147483647))
            (ih ((t2, t3, v1.2.1), r52 ++ [v1.1], r4_0, r4_1, r4_2))
            (none))
          (ih ((t2, t3, v1.2.1), r52, r4_0, r4_1, r4_2))))
      (some (Sum.inl ((), r52))))
    (some (Sum.inl ((), r52)))
noncomputable def h32_0 : ((Int × Int × Int) × ((List (Int × Int × List UInt8 × List UInt8)) × Int × Int × List UInt8)) → Option (((Unit) × (List (Int × Int × List UInt8 × List UInt8))) ⊕ ((List (Int × Int × List UInt8 × List UInt8)))) := loopN st32_0 fuel
noncomputable def l32_0 : LI D32 := ⟨ns32_0, ex32_0, h32_0⟩
noncomputable def lv32 : Nat → Option (LI D32) := fun q => if q = 4 then some l32_0 else (fun _ => none) q
noncomputable def g32 (a0_0 : Int) (a0_1 : Int) (a0_2 : List UInt8) (a1 : List (Int × Int)) (a2 : Int) (a3 : Int) : Option (List (Int × Int × List UInt8 × List UInt8)) :=
  Option.bind (g49 a1 a2) fun v1 =>
  Option.bind (h32_0 ((a2, a3, v1.1.2), [], a0_0, a0_1, a0_2)) fun v2 =>
  match v2 with
  | .inl x3 =>
    some (x3.2)
  | .inr x3 =>
    some (x3)
noncomputable def i32 : FI := ⟨ps32, .ty (.sl (.st (.pr (.i .i64) (.pr (.i .i64) (.pr .s .s))))), fun ((a0_0, a0_1, a0_2), a1, a2, a3) => g32 a0_0 a0_1 a0_2 a1 a2 a3⟩
theorem s32_0 : st32_0 = stepEval T Y env32 an lv32 (finO T true ps32 (.ty (.sl (.st (.pr (.i .i64) (.pr (.i .i64) (.pr .s .s)))))) Try.f32.results.toList) (loopAt c32 0) ns32_0 ex32_0 := by kernel_rfl
theorem e32 : (fun a => i32.G a) = fnEval T Y env32 an i32.ps i32.rs true Try.f32.results.toList lv32 c32 := by kernel_rfl
theorem lo32 : loopsOf c32 = [loopAt c32 0] := by kernel_rfl
theorem ll32 : LoopsOk T Y env32 an lv32 (finO T true ps32 (.ty (.sl (.st (.pr (.i .i64) (.pr (.i .i64) (.pr .s .s)))))) Try.f32.results.toList) c32 := loopsOk_of (by rw [lo32]; exact ⟨loop1 (li := l32_0) (by kernel_rfl) (by kernel_rfl) s32_0, trivial⟩)
theorem k32 : FnOk Try.prog 32 i32 :=
  fn_ok (T := T) (Y := Y) (an := an) (env := env32) (fr := true) (lenv := lv32) mixed tok.1 tok.2 (envCons k49 (envCons k50 (envNil))) (fn := Try.f32) (c := c32) (by kernel_rfl) (by kernel_rfl) (by kernel_rfl) ll32 (fun a => congrFun e32 a)
/-! ### broker/index.Build -/
noncomputable def c33 : Code := Try.f33.body.getD .skip
noncomputable def env33 : Env := mkEnv [(50, i50)]
abbrev ps33 : List PSh := [.d (.st (.pr (.i .i64) (.pr (.i .i64) (.sl .u8)))), .d (.i .i64)]
abbrev D33 : Type := pairD (.ty (.sl (.st (.pr (.i .i64) (.i .i64))))) (osOf ps33)
def ns33_0 : NS := { slots := [(2, .pt 2 []), (5, .hw 41), (1, .ty (.i .i64)), (6, .ty (.i .i64))], roots := [(41, .ar 2 (.st (.pr (.i .i64) (.i .i64)))), (2, .ty (.st (.pr (.i .i64) (.pr (.i .i64) (.sl .u8)))))], ad := [{ t := 5, path := [], g := 41, d := 2, τ := (.st (.pr (.i .i64) (.i .i64)) : Ty) }] }
def ex33_0 : List (Nat × NS) := [(0, { slots := [(5, .hw 41)], roots := [(41, .ar 2 (.st (.pr (.i .i64) (.i .i64))))] })]
noncomputable def st33_0 (ih : ((Int × Int) × ((List (Int × Int)) × Int × Int × List UInt8)) → Option (((Unit) × (List (Int × Int))) ⊕ ((List (Int × Int))))) : ((Int × Int) × ((List (Int × Int)) × Int × Int × List UInt8)) → Option (((Unit) × (List (Int × Int))) ⊕ ((List (Int × Int)))) := fun ((t1, t6), (r41, (r2_0, r2_1, r2_2))) =>
  cond (decide (t6 < (↑r2_2.length : Int)))
    (Option.bind (g50 r2_2 t6) fun v1 =>
    cond (v1.2.2 != 0)
      (some (Sum.inl ((), r41)))
      (cond (!decide (t1 = 0))
        (cond ((IntKind.i64.wrap (v1.1.1 - r2_0)).tmod t1 == 0)
          (cond (decide (r41.length + 1 ≤ 2147483647))
            (ih ((t1, v1.2.1), r41 ++ [(v1.1.1, t6)], r2_0, r2_1, r2_2))
            (none))
          (ih ((t1, v1.2.1), r41, r2_0, r2_1, r2_2)))
        (none)))
    (some (Sum.inl ((), r41)))
noncomputable def h33_0 : ((Int × Int) × ((List (Int × Int)) × Int × Int × List UInt8)) → Option (((Unit) × (List (Int × Int))) ⊕ ((List (Int × Int)))) := loopN st33_0 fuel
noncomputable def l33_0 : LI D33 := ⟨ns33_0, ex33_0, h33_0⟩
noncomputable def lv33 : Nat → Option (LI D33) := fun q => if q = 4 then some l33_0 else (fun _ => none) q
noncomputable def g33 (a0_0 : Int) (a0_1 : Int) (a0_2 : List UInt8) (a1 : Int) : Option (List (Int × Int)) :=
  Option.bind (h33_0 ((if true = true then if 1 > a1 then 1 else a1 else if 1 < a1 then 1 else a1, 0), [], a0_0, a0_1, a0_2)) fun v1 =>
  match v1 with
  | .inl x2 =>
    some (x2.2)
  | .inr x2 =>
    some (x2)
noncomputable def i33 : FI := ⟨ps33, .ty (.sl (.st (.pr (.i .i64) (.i .i64)))), fun ((a0_0, a0_1, a0_2), a1) => g33 a0_0 a0_1 a0_2 a1⟩
theorem s33_0 : st33_0 = stepEval T Y env33 an lv33 (finO T true ps33 (.ty (.sl (.st (.pr (.i .i64) (.i .i64))))) Try.f33.results.toList) (loopAt c33 0) ns33_0 ex33_0 := by kernel_rfl
theorem e33 : (fun a => i33.G a) = fnEval T Y env33 an i33.ps i33.rs true Try.f33.results.toList lv33 c33 := by kernel_rfl
theorem lo33 : loopsOf c33 = [loopAt c33 0] := by kernel_rfl
theorem ll33 : LoopsOk T Y env33 an lv33 (finO T true ps33 (.ty (.sl (.st (.pr (.i .i64) (.i .i64))))) Try.f33.results.toList) c33 := loopsOk_of (by rw [lo33]; exact ⟨loop1 (li := l33_0) (by kernel_rfl) (by kernel_rfl) s33_0, trivial⟩)
theorem k33 : FnOk Try.prog 33 i33 :=
  fn_ok (T := T) (Y := Y) (an := an) (env := env33) (fr := true) (lenv := lv33) mixed tok.1 tok.2 (envCons k50 (envNil)) (fn := Try.f33) (c := c33) (by kernel_rfl) (by kernel_rfl) (by kernel_rfl) ll33 (fun a => congrFun e33 a)
end Go.Proofs.Ytbncnkchedhnpaa.EVT
