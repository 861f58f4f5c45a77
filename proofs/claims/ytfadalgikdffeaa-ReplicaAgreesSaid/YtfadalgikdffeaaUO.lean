/- What functions compute, as printed (U, part O). -/
import Derived.Test.YtfadalgikdffeaaUE
set_option linter.unusedVariables false
set_option maxRecDepth 100000
set_option maxHeartbeats 0
namespace Go.Proofs.Ytfadalgikdffeaa.EVT
open Go Go.EV
/-! ### broker/brokerlaw41.start -/
noncomputable def c20 : Code := Try.f20.body.getD .skip
noncomputable def env20 : Env := mkEnv [(9, i9)]
abbrev ps20 : List PSh := [.d (.i .i64)]
abbrev D20 : Type := pairD (.tup (.pr (.ag (.pr (.ow 10 (.st (.pr (.st (.pr (.i .i64) (.pr (.i .i64) (.pr (.i .i64) (.pr (.i .i64) (.pr (.i .i64) (.pr (.i .i64) (.sl (.i .i64))))))))) (.pr (.i .i64) (.pr (.sl (.st (.pr (.i .i64) .s))) (.sl (.i .i64))))))) (.pr (.ow 9 (.st (.pr (.i .i64) (.pr (.i .i64) (.pr (.i .i64) (.pr (.i .i64) (.pr (.i .i64) (.pr (.i .i64) (.pr (.i .i64) (.pr .b (.sl (.st (.pr (.i .i64) .s))))))))))))) (.ty (.i .i64))))) (.ty .b))) (osOf ps20)
def ns20_0 : NS := { slots := [(2, .pt 2 []), (4, .pt 4 []), (0, .ty (.i .i64)), (8, .ty (.i .i64)), (9, .ty (.i .i64))], roots := [(900041, .ar 9 (.st (.pr (.i .i64) (.pr (.i .i64) (.pr (.i .i64) (.pr (.i .i64) (.pr (.i .i64) (.pr (.i .i64) (.pr (.i .i64) (.pr .b (.sl (.st (.pr (.i .i64) .s))))))))))))), (25, .ar 10 (.st (.pr (.st (.pr (.i .i64) (.pr (.i .i64) (.pr (.i .i64) (.pr (.i .i64) (.pr (.i .i64) (.pr (.i .i64) (.sl (.i .i64))))))))) (.pr (.i .i64) (.pr (.sl (.st (.pr (.i .i64) .s))) (.sl (.i .i64))))))), (4, .ag (.pr (.hw 25) (.pr (.hw 900041) (.ty (.i .i64))))), (2, .ty (.st (.pr (.sl (.st (.pr (.st (.pr (.i .i64) (.pr (.i .i64) (.pr (.i .i64) (.pr (.i .i64) (.pr (.i .i64) (.pr (.i .i64) (.sl (.i .i64))))))))) (.pr (.i .i64) (.pr (.sl (.st (.pr (.i .i64) .s))) (.sl (.i .i64))))))) (.pr (.sl (.st (.pr (.i .i64) (.pr (.i .i64) (.pr (.i .i64) (.pr (.i .i64) (.pr (.i .i64) (.pr (.i .i64) (.pr (.i .i64) (.pr .b (.sl (.st (.pr (.i .i64) .s))))))))))))) (.i .i64)))))], ad := [{ t := 4, path := [(1, 1)], g := 900041, d := 9, τ := (.st (.pr (.i .i64) (.pr (.i .i64) (.pr (.i .i64) (.pr (.i .i64) (.pr (.i .i64) (.pr (.i .i64) (.pr (.i .i64) (.pr .b (.sl (.st (.pr (.i .i64) .s))))))))))) : Ty) }, { t := 4, path := [(0, 0)], g := 25, d := 10, τ := (.st (.pr (.st (.pr (.i .i64) (.pr (.i .i64) (.pr (.i .i64) (.pr (.i .i64) (.pr (.i .i64) (.pr (.i .i64) (.sl (.i .i64))))))))) (.pr (.i .i64) (.pr (.sl (.st (.pr (.i .i64) .s))) (.sl (.i .i64))))) : Ty) }] }
def ex20_0 : List (Nat × NS) := [(0, { slots := [(2, .pt 2 []), (4, .pt 4 [])], roots := [(4, .ag (.pr (.hw 25) (.pr (.hw 900041) (.ty (.i .i64))))), (2, .ty (.st (.pr (.sl (.st (.pr (.st (.pr (.i .i64) (.pr (.i .i64) (.pr (.i .i64) (.pr (.i .i64) (.pr (.i .i64) (.pr (.i .i64) (.sl (.i .i64))))))))) (.pr (.i .i64) (.pr (.sl (.st (.pr (.i .i64) .s))) (.sl (.i .i64))))))) (.pr (.sl (.st (.pr (.i .i64) (.pr (.i .i64) (.pr (.i .i64) (.pr (.i .i64) (.pr (.i .i64) (.pr (.i .i64) (.pr (.i .i64) (.pr .b (.sl (.st (.pr (.i .i64) .s))))))))))))) (.i .i64))))), (900041, .ar 9 (.st (.pr (.i .i64) (.pr (.i .i64) (.pr (.i .i64) (.pr (.i .i64) (.pr (.i .i64) (.pr (.i .i64) (.pr (.i .i64) (.pr .b (.sl (.st (.pr (.i .i64) .s))))))))))))), (25, .ar 10 (.st (.pr (.st (.pr (.i .i64) (.pr (.i .i64) (.pr (.i .i64) (.pr (.i .i64) (.pr (.i .i64) (.pr (.i .i64) (.sl (.i .i64))))))))) (.pr (.i .i64) (.pr (.sl (.st (.pr (.i .i64) .s))) (.sl (.i .i64)))))))] })]
noncomputable def st20_0 (ih : ((Int × Int × Int) × ((List (Int × Int × Int × Int × Int × Int × Int × Bool × List (Int × List UInt8))) × (List ((Int × Int × Int × Int × Int × Int × List Int) × Int × List (Int × List UInt8) × List Int)) × (Unit × Unit × Int) × List ((Int × Int × Int × Int × Int × Int × List Int) × Int × List (Int × List UInt8) × List Int) × List (Int × Int × Int × Int × Int × Int × Int × Bool × List (Int × List UInt8)) × Int)) → Option (((Unit) × ((Unit × Unit × Int) × (List ((Int × Int × Int × Int × Int × Int × List Int) × Int × List (Int × List UInt8) × List Int) × List (Int × Int × Int × Int × Int × Int × Int × Bool × List (Int × List UInt8)) × Int) × (List (Int × Int × Int × Int × Int × Int × Int × Bool × List (Int × List UInt8))) × List ((Int × Int × Int × Int × Int × Int × List Int) × Int × List (Int × List UInt8) × List Int))) ⊕ ((((List ((Int × Int × Int × Int × Int × Int × List Int) × Int × List (Int × List UInt8) × List Int)) × (List (Int × Int × Int × Int × Int × Int × Int × Bool × List (Int × List UInt8))) × Int) × Bool)))) : ((Int × Int × Int) × ((List (Int × Int × Int × Int × Int × Int × Int × Bool × List (Int × List UInt8))) × (List ((Int × Int × Int × Int × Int × Int × List Int) × Int × List (Int × List UInt8) × List Int)) × (Unit × Unit × Int) × List ((Int × Int × Int × Int × Int × Int × List Int) × Int × List (Int × List UInt8) × List Int) × List (Int × Int × Int × Int × Int × Int × Int × Bool × List (Int × List UInt8)) × Int)) → Option (((Unit) × ((Unit × Unit × Int) × (List ((Int × Int × Int × Int × Int × Int × List Int) × Int × List (Int × List UInt8) × List Int) × List (Int × Int × Int × Int × Int × Int × Int × Bool × List (Int × List UInt8)) × Int) × (List (Int × Int × Int × Int × Int × Int × Int × Bool × List (Int × List UInt8))) × List ((Int × Int × Int × Int × Int × Int × List Int) × Int × List (Int × List UInt8) × List Int))) ⊕ ((((List ((Int × Int × Int × Int × Int × Int × List Int) × Int × List (Int × List UInt8) × List Int)) × (List (Int × Int × Int × Int × Int × Int × Int × Bool × List (Int × List UInt8))) × Int) × Bool))) := fun ((t0, t8, t9), (r900041, r25, ((), (), r4_2), (r2_0, r2_1, r2_2))) =>
  cond (decide (t9 < t8))
    (Option.bind (g9 t9 t0) fun v1 =>
    cond (v1.2 != 0)
      (some (Sum.inr ((r25, r900041, r4_2), false)))
      (cond (decide (r25.length + 1 ≤ 2147483647))
        (ih ((t0, t8, IntKind.i64.wrap (t9 + 1)), r900041, r25 ++ [v1.1], ((), (), r4_2), r2_0, r2_1, r2_2))
        (none)))
    (some (Sum.inl ((), ((), (), r4_2), (r2_0, r2_1, r2_2), r900041, r25)))
noncomputable def h20_0 : ((Int × Int × Int) × ((List (Int × Int × Int × Int × Int × Int × Int × Bool × List (Int × List UInt8))) × (List ((Int × Int × Int × Int × Int × Int × List Int) × Int × List (Int × List UInt8) × List Int)) × (Unit × Unit × Int) × List ((Int × Int × Int × Int × Int × Int × List Int) × Int × List (Int × List UInt8) × List Int) × List (Int × Int × Int × Int × Int × Int × Int × Bool × List (Int × List UInt8)) × Int)) → Option (((Unit) × ((Unit × Unit × Int) × (List ((Int × Int × Int × Int × Int × Int × List Int) × Int × List (Int × List UInt8) × List Int) × List (Int × Int × Int × Int × Int × Int × Int × Bool × List (Int × List UInt8)) × Int) × (List (Int × Int × Int × Int × Int × Int × Int × Bool × List (Int × List UInt8))) × List ((Int × Int × Int × Int × Int × Int × List Int) × Int × List (Int × List UInt8) × List Int))) ⊕ ((((List ((Int × Int × Int × Int × Int × Int × List Int) × Int × List (Int × List UInt8) × List Int)) × (List (Int × Int × Int × Int × Int × Int × Int × Bool × List (Int × List UInt8))) × Int) × Bool))) := loopN st20_0 fuel
noncomputable def l20_0 : LI D20 := ⟨ns20_0, ex20_0, h20_0⟩
noncomputable def lv20 : Nat → Option (LI D20) := fun q => if q = 3 then some l20_0 else (fun _ => none) q
noncomputable def g20 (a0 : Int) : Option (((List ((Int × Int × Int × Int × Int × Int × List Int) × Int × List (Int × List UInt8) × List Int)) × (List (Int × Int × Int × Int × Int × Int × Int × Bool × List (Int × List UInt8))) × Int) × Bool) :=
  Option.bind (h20_0 ((a0, a0, 0), [], [], ((), (), 0), [], [], 0)) fun v1 =>
  match v1 with
  | .inl x2 =>
    some (((x2.2.2.2.2, x2.2.2.2.1, x2.2.1.2.2), true))
  | .inr x2 =>
    some (x2)
noncomputable def i20 : FI := ⟨ps20, .tup (.pr (.ag (.pr (.ow 10 (.st (.pr (.st (.pr (.i .i64) (.pr (.i .i64) (.pr (.i .i64) (.pr (.i .i64) (.pr (.i .i64) (.pr (.i .i64) (.sl (.i .i64))))))))) (.pr (.i .i64) (.pr (.sl (.st (.pr (.i .i64) .s))) (.sl (.i .i64))))))) (.pr (.ow 9 (.st (.pr (.i .i64) (.pr (.i .i64) (.pr (.i .i64) (.pr (.i .i64) (.pr (.i .i64) (.pr (.i .i64) (.pr (.i .i64) (.pr .b (.sl (.st (.pr (.i .i64) .s))))))))))))) (.ty (.i .i64))))) (.ty .b)), fun a0 => g20 a0⟩
theorem s20_0 : st20_0 = stepEval T Y env20 an lv20 (finO T false ps20 (.tup (.pr (.ag (.pr (.ow 10 (.st (.pr (.st (.pr (.i .i64) (.pr (.i .i64) (.pr (.i .i64) (.pr (.i .i64) (.pr (.i .i64) (.pr (.i .i64) (.sl (.i .i64))))))))) (.pr (.i .i64) (.pr (.sl (.st (.pr (.i .i64) .s))) (.sl (.i .i64))))))) (.pr (.ow 9 (.st (.pr (.i .i64) (.pr (.i .i64) (.pr (.i .i64) (.pr (.i .i64) (.pr (.i .i64) (.pr (.i .i64) (.pr (.i .i64) (.pr .b (.sl (.st (.pr (.i .i64) .s))))))))))))) (.ty (.i .i64))))) (.ty .b))) Try.f20.results.toList) (loopAt c20 0) ns20_0 ex20_0 := by kernel_rfl
theorem e20 : (fun a => i20.G a) = fnEval T Y env20 an i20.ps i20.rs false Try.f20.results.toList lv20 c20 := by kernel_rfl
theorem lo20 : loopsOf c20 = [loopAt c20 0] := by kernel_rfl
theorem ll20 : LoopsOk T Y env20 an lv20 (finO T false ps20 (.tup (.pr (.ag (.pr (.ow 10 (.st (.pr (.st (.pr (.i .i64) (.pr (.i .i64) (.pr (.i .i64) (.pr (.i .i64) (.pr (.i .i64) (.pr (.i .i64) (.sl (.i .i64))))))))) (.pr (.i .i64) (.pr (.sl (.st (.pr (.i .i64) .s))) (.sl (.i .i64))))))) (.pr (.ow 9 (.st (.pr (.i .i64) (.pr (.i .i64) (.pr (.i .i64) (.pr (.i .i64) (.pr (.i .i64) (.pr (.i .i64) (.pr (.i .i64) (.pr .b (.sl (.st (.pr (.i .i64) .s))))))))))))) (.ty (.i .i64))))) (.ty .b))) Try.f20.results.toList) c20 := loopsOk_of (by rw [lo20]; exact ⟨loop1 (li := l20_0) (by kernel_rfl) (by kernel_rfl) s20_0, trivial⟩)
theorem k20 : FnOk Try.prog 20 i20 :=
  fn_ok (T := T) (Y := Y) (an := an) (env := env20) (fr := false) (lenv := lv20) mixed tok.1 tok.2 (envCons k9 (envNil)) (fn := Try.f20) (c := c20) (by kernel_rfl) (by kernel_rfl) (by kernel_rfl) ll20 (fun a => congrFun e20 a)
/-! ### (*broker/brokerlaw41.cluster).arrive -/
noncomputable def c25 : Code := Try.f25.body.getD .skip
noncomputable def env25 : Env := mkEnv [(16, i16)]
abbrev ps25 : List PSh := [.io (.ob (.ag (.pr (.ow 10 (.st (.pr (.st (.pr (.i .i64) (.pr (.i .i64) (.pr (.i .i64) (.pr (.i .i64) (.pr (.i .i64) (.pr (.i .i64) (.sl (.i .i64))))))))) (.pr (.i .i64) (.pr (.sl (.st (.pr (.i .i64) .s))) (.sl (.i .i64))))))) (.pr (.ow 9 (.st (.pr (.i .i64) (.pr (.i .i64) (.pr (.i .i64) (.pr (.i .i64) (.pr (.i .i64) (.pr (.i .i64) (.pr (.i .i64) (.pr .b (.sl (.st (.pr (.i .i64) .s))))))))))))) (.ty (.i .i64)))))) (.ob (.ag (.pr (.ow 10 (.st (.pr (.st (.pr (.i .i64) (.pr (.i .i64) (.pr (.i .i64) (.pr (.i .i64) (.pr (.i .i64) (.pr (.i .i64) (.sl (.i .i64))))))))) (.pr (.i .i64) (.pr (.sl (.st (.pr (.i .i64) .s))) (.sl (.i .i64))))))) (.pr (.ow 9 (.st (.pr (.i .i64) (.pr (.i .i64) (.pr (.i .i64) (.pr (.i .i64) (.pr (.i .i64) (.pr (.i .i64) (.pr (.i .i64) (.pr .b (.sl (.st (.pr (.i .i64) .s))))))))))))) (.ty (.i .i64)))))), .d (.st (.pr (.i .i64) (.pr (.i .i64) (.pr (.i .i64) (.pr (.i .i64) (.pr (.i .i64) (.pr (.i .i64) (.pr (.i .i64) (.pr .b (.sl (.st (.pr (.i .i64) .s))))))))))))]
abbrev D25 : Type := pairD (.ty .b) (osOf ps25)
noncomputable def lv25 : Nat → Option (LI D25) := fun _ => none
noncomputable def g25 (a0_0 : List ((Int × Int × Int × Int × Int × Int × List Int) × Int × List (Int × List UInt8) × List Int)) (a0_1 : List (Int × Int × Int × Int × Int × Int × Int × Bool × List (Int × List UInt8))) (a0_2 : Int) (a1_0 : Int) (a1_1 : Int) (a1_2 : Int) (a1_3 : Int) (a1_4 : Int) (a1_5 : Int) (a1_6 : Int) (a1_7 : Bool) (a1_8 : List (Int × List UInt8)) : Option (Bool × (List ((Int × Int × Int × Int × Int × Int × List Int) × Int × List (Int × List UInt8) × List Int)) × (List (Int × Int × Int × Int × Int × Int × Int × Bool × List (Int × List UInt8))) × Int) :=
  cond (decide (a1_2 < 0))
    (some ((false, a0_0, a0_1, a0_2)))
    (cond (decide (a1_2 ≥ (↑a0_0.length : Int)))
      (some ((false, a0_0, a0_1, a0_2)))
      (cond (decide (0 ≤ a1_2) && decide (a1_2 < (↑a0_0.length : Int)))
        (cond (decide (a1_2.toNat < a0_0.length))
          (Option.bind (g16 (a0_0.getD a1_2.toNat ((0, 0, 0, 0, 0, 0, []), 0, [], [])).1.1 (a0_0.getD a1_2.toNat ((0, 0, 0, 0, 0, 0, []), 0, [], [])).1.2.1 (a0_0.getD a1_2.toNat ((0, 0, 0, 0, 0, 0, []), 0, [], [])).1.2.2.1 (a0_0.getD a1_2.toNat ((0, 0, 0, 0, 0, 0, []), 0, [], [])).1.2.2.2.1 (a0_0.getD a1_2.toNat ((0, 0, 0, 0, 0, 0, []), 0, [], [])).1.2.2.2.2.1 (a0_0.getD a1_2.toNat ((0, 0, 0, 0, 0, 0, []), 0, [], [])).1.2.2.2.2.2.1 (a0_0.getD a1_2.toNat ((0, 0, 0, 0, 0, 0, []), 0, [], [])).1.2.2.2.2.2.2 (a0_0.getD a1_2.toNat ((0, 0, 0, 0, 0, 0, []), 0, [], [])).2.1 (a0_0.getD a1_2.toNat ((0, 0, 0, 0, 0, 0, []), 0, [], [])).2.2.1 (a0_0.getD a1_2.toNat ((0, 0, 0, 0, 0, 0, []), 0, [], [])).2.2.2 a1_0 a1_1 a1_2 a1_3 a1_4 a1_5 a1_6 a1_7 a1_8) fun v1 =>
          cond (decide (0 ≤ a1_2) && decide (a1_2 < (↑a0_0.length : Int)))
            (cond (decide (a1_2.toNat < a0_0.length))
              (cond (decide (a0_1.length + List.length v1.2 ≤ 2147483647))
                (some ((true, a0_0.set a1_2.toNat v1.1, a0_1 ++ v1.2, a0_2)))
                (none))
              (none))
            (none))
          (none))
        (none)))
noncomputable def i25 : FI := ⟨ps25, .ty .b, fun ((a0_0, a0_1, a0_2), (a1_0, a1_1, a1_2, a1_3, a1_4, a1_5, a1_6, a1_7, a1_8)) => g25 a0_0 a0_1 a0_2 a1_0 a1_1 a1_2 a1_3 a1_4 a1_5 a1_6 a1_7 a1_8⟩
theorem e25 : (fun a => i25.G a) = fnEval T Y env25 an i25.ps i25.rs true Try.f25.results.toList lv25 c25 := by kernel_rfl
theorem lo25 : loopsOf c25 = [] := by kernel_rfl
theorem ll25 : LoopsOk T Y env25 an lv25 (finO T true ps25 (.ty .b) Try.f25.results.toList) c25 := loopsOk_of (by rw [lo25]; exact trivial)
theorem k25 : FnOk Try.prog 25 i25 :=
  fn_ok (T := T) (Y := Y) (an := an) (env := env25) (fr := true) (lenv := lv25) mixed tok.1 tok.2 (envCons k16 (envNil)) (fn := Try.f25) (c := c25) (by kernel_rfl) (by kernel_rfl) (by kernel_rfl) ll25 (fun a => congrFun e25 a)
/-! ### (*broker/brokerlaw41.cluster).do -/
noncomputable def c21 : Code := Try.f21.body.getD .skip
noncomputable def env21 : Env := mkEnv [(15, i15), (24, i24), (17, i17), (19, i19), (25, i25)]
abbrev ps21 : List PSh := [.io (.ob (.ag (.pr (.ow 10 (.st (.pr (.st (.pr (.i .i64) (.pr (.i .i64) (.pr (.i .i64) (.pr (.i .i64) (.pr (.i .i64) (.pr (.i .i64) (.sl (.i .i64))))))))) (.pr (.i .i64) (.pr (.sl (.st (.pr (.i .i64) .s))) (.sl (.i .i64))))))) (.pr (.ow 9 (.st (.pr (.i .i64) (.pr (.i .i64) (.pr (.i .i64) (.pr (.i .i64) (.pr (.i .i64) (.pr (.i .i64) (.pr (.i .i64) (.pr .b (.sl (.st (.pr (.i .i64) .s))))))))))))) (.ty (.i .i64)))))) (.ob (.ag (.pr (.ow 10 (.st (.pr (.st (.pr (.i .i64) (.pr (.i .i64) (.pr (.i .i64) (.pr (.i .i64) (.pr (.i .i64) (.pr (.i .i64) (.sl (.i .i64))))))))) (.pr (.i .i64) (.pr (.sl (.st (.pr (.i .i64) .s))) (.sl (.i .i64))))))) (.pr (.ow 9 (.st (.pr (.i .i64) (.pr (.i .i64) (.pr (.i .i64) (.pr (.i .i64) (.pr (.i .i64) (.pr (.i .i64) (.pr (.i .i64) (.pr .b (.sl (.st (.pr (.i .i64) .s))))))))))))) (.ty (.i .i64)))))), .d (.st (.pr (.i .i64) (.pr (.i .i64) (.i .i64))))]
abbrev D21 : Type := pairD (.ty .b) (osOf ps21)
noncomputable def lv21 : Nat → Option (LI D21) := fun _ => none
noncomputable def g21 (a0_0 : List ((Int × Int × Int × Int × Int × Int × List Int) × Int × List (Int × List UInt8) × List Int)) (a0_1 : List (Int × Int × Int × Int × Int × Int × Int × Bool × List (Int × List UInt8))) (a0_2 : Int) (a1_0 : Int) (a1_1 : Int) (a1_2 : Int) : Option (Bool × (List ((Int × Int × Int × Int × Int × Int × List Int) × Int × List (Int × List UInt8) × List Int)) × (List (Int × Int × Int × Int × Int × Int × Int × Bool × List (Int × List UInt8))) × Int) :=
  cond (!decide ((↑a0_0.length : Int) = 0))
    (cond (a1_0 == 0)
      (cond (decide (0 ≤ a1_1.tmod (↑a0_0.length : Int)) && decide (a1_1.tmod (↑a0_0.length : Int) < (↑a0_0.length : Int)))
        (cond (decide ((a1_1.tmod (↑a0_0.length : Int)).toNat < a0_0.length))
          (Option.bind (g15 (a0_0.getD (a1_1.tmod (↑a0_0.length : Int)).toNat ((0, 0, 0, 0, 0, 0, []), 0, [], [])).1.1 (a0_0.getD (a1_1.tmod (↑a0_0.length : Int)).toNat ((0, 0, 0, 0, 0, 0, []), 0, [], [])).1.2.1 (a0_0.getD (a1_1.tmod (↑a0_0.length : Int)).toNat ((0, 0, 0, 0, 0, 0, []), 0, [], [])).1.2.2.1 (a0_0.getD (a1_1.tmod (↑a0_0.length : Int)).toNat ((0, 0, 0, 0, 0, 0, []), 0, [], [])).1.2.2.2.1 (a0_0.getD (a1_1.tmod (↑a0_0.length : Int)).toNat ((0, 0, 0, 0, 0, 0, []), 0, [], [])).1.2.2.2.2.1 (a0_0.getD (a1_1.tmod (↑a0_0.length : Int)).toNat ((0, 0, 0, 0, 0, 0, []), 0, [], [])).1.2.2.2.2.2.1 (a0_0.getD (a1_1.tmod (↑a0_0.length : Int)).toNat ((0, 0, 0, 0, 0, 0, []), 0, [], [])).1.2.2.2.2.2.2 (a0_0.getD (a1_1.tmod (↑a0_0.length : Int)).toNat ((0, 0, 0, 0, 0, 0, []), 0, [], [])).2.1 (a0_0.getD (a1_1.tmod (↑a0_0.length : Int)).toNat ((0, 0, 0, 0, 0, 0, []), 0, [], [])).2.2.1 (a0_0.getD (a1_1.tmod (↑a0_0.length : Int)).toNat ((0, 0, 0, 0, 0, 0, []), 0, [], [])).2.2.2) fun v1 =>
          cond (decide (0 ≤ a1_1.tmod (↑a0_0.length : Int)) && decide (a1_1.tmod (↑a0_0.length : Int) < (↑a0_0.length : Int)))
            (cond (decide ((a1_1.tmod (↑a0_0.length : Int)).toNat < a0_0.length))
              (cond (decide (a0_1.length + List.length v1.2 ≤ 2147483647))
                (some ((true, a0_0.set (a1_1.tmod (↑a0_0.length : Int)).toNat v1.1, a0_1 ++ v1.2, a0_2)))
                (none))
              (none))
            (none))
          (none))
        (none))
      (cond (a1_0 == 1)
        (cond (decide (0 ≤ a1_1.tmod (↑a0_0.length : Int)) && decide (a1_1.tmod (↑a0_0.length : Int) < (↑a0_0.length : Int)))
          (cond (decide ((a1_1.tmod (↑a0_0.length : Int)).toNat < a0_0.length))
            (Option.bind (g24 (a0_0.getD (a1_1.tmod (↑a0_0.length : Int)).toNat ((0, 0, 0, 0, 0, 0, []), 0, [], [])).1.1 (a0_0.getD (a1_1.tmod (↑a0_0.length : Int)).toNat ((0, 0, 0, 0, 0, 0, []), 0, [], [])).1.2.1 (a0_0.getD (a1_1.tmod (↑a0_0.length : Int)).toNat ((0, 0, 0, 0, 0, 0, []), 0, [], [])).1.2.2.1 (a0_0.getD (a1_1.tmod (↑a0_0.length : Int)).toNat ((0, 0, 0, 0, 0, 0, []), 0, [], [])).1.2.2.2.1 (a0_0.getD (a1_1.tmod (↑a0_0.length : Int)).toNat ((0, 0, 0, 0, 0, 0, []), 0, [], [])).1.2.2.2.2.1 (a0_0.getD (a1_1.tmod (↑a0_0.length : Int)).toNat ((0, 0, 0, 0, 0, 0, []), 0, [], [])).1.2.2.2.2.2.1 (a0_0.getD (a1_1.tmod (↑a0_0.length : Int)).toNat ((0, 0, 0, 0, 0, 0, []), 0, [], [])).1.2.2.2.2.2.2 (a0_0.getD (a1_1.tmod (↑a0_0.length : Int)).toNat ((0, 0, 0, 0, 0, 0, []), 0, [], [])).2.1 (a0_0.getD (a1_1.tmod (↑a0_0.length : Int)).toNat ((0, 0, 0, 0, 0, 0, []), 0, [], [])).2.2.1 (a0_0.getD (a1_1.tmod (↑a0_0.length : Int)).toNat ((0, 0, 0, 0, 0, 0, []), 0, [], [])).2.2.2) fun v2 =>
            cond (decide (a0_1.length + List.length v2 ≤ 2147483647))
              (some ((true, a0_0, a0_1 ++ v2, a0_2)))
              (none))
            (none))
          (none))
        (cond (a1_0 == 2)
          (cond (decide (0 ≤ a1_1.tmod (↑a0_0.length : Int)) && decide (a1_1.tmod (↑a0_0.length : Int) < (↑a0_0.length : Int)))
            (cond (decide ((a1_1.tmod (↑a0_0.length : Int)).toNat < a0_0.length))
              (cond (decide (0 ≤ IntKind.i32.wrap (IntKind.i64.wrap (97 + a0_2.tmod 26)) ∧ IntKind.i32.wrap (IntKind.i64.wrap (97 + a0_2.tmod 26)) < 128))
                (Option.bind (g17 (a0_0.getD (a1_1.tmod (↑a0_0.length : Int)).toNat ((0, 0, 0, 0, 0, 0, []), 0, [], [])).1.1 (a0_0.getD (a1_1.tmod (↑a0_0.length : Int)).toNat ((0, 0, 0, 0, 0, 0, []), 0, [], [])).1.2.1 (a0_0.getD (a1_1.tmod (↑a0_0.length : Int)).toNat ((0, 0, 0, 0, 0, 0, []), 0, [], [])).1.2.2.1 (a0_0.getD (a1_1.tmod (↑a0_0.length : Int)).toNat ((0, 0, 0, 0, 0, 0, []), 0, [], [])).1.2.2.2.1 (a0_0.getD (a1_1.tmod (↑a0_0.length : Int)).toNat ((0, 0, 0, 0, 0, 0, []), 0, [], [])).1.2.2.2.2.1 (a0_0.getD (a1_1.tmod (↑a0_0.length : Int)).toNat ((0, 0, 0, 0, 0, 0, []), 0, [], [])).1.2.2.2.2.2.1 (a0_0.getD (a1_1.tmod (↑a0_0.length : Int)).toNat ((0, 0, 0, 0, 0, 0, []), 0, [], [])).1.2.2.2.2.2.2 (a0_0.getD (a1_1.tmod (↑a0_0.length : Int)).toNat ((0, 0, 0, 0, 0, 0, []), 0, [], [])).2.1 (a0_0.getD (a1_1.tmod (↑a0_0.length : Int)).toNat ((0, 0, 0, 0, 0, 0, []), 0, [], [])).2.2.1 (a0_0.getD (a1_1.tmod (↑a0_0.length : Int)).toNat ((0, 0, 0, 0, 0, 0, []), 0, [], [])).2.2.2 [UInt8.ofNat (IntKind.i32.wrap (IntKind.i64.wrap (97 + a0_2.tmod 26))).toNat]) fun v3 =>
                cond (decide (0 ≤ a1_1.tmod (↑a0_0.length : Int)) && decide (a1_1.tmod (↑a0_0.length : Int) < (↑a0_0.length : Int)))
                  (cond (decide ((a1_1.tmod (↑a0_0.length : Int)).toNat < a0_0.length))
                    (cond (!(v3.2.2 == 0) == ((a0_0.getD (a1_1.tmod (↑a0_0.length : Int)).toNat ((0, 0, 0, 0, 0, 0, []), 0, [], [])).1.2.2.2.1 == 2))
                      (some ((false, a0_0, a0_1, a0_2)))
                      (cond (v3.2.2 == 0)
                        (cond (decide (0 ≤ a1_1.tmod (↑a0_0.length : Int)) && decide (a1_1.tmod (↑a0_0.length : Int) < (↑a0_0.length : Int)))
                          (cond (decide ((a1_1.tmod (↑a0_0.length : Int)).toNat < a0_0.length))
                            (some ((true, a0_0.set (a1_1.tmod (↑a0_0.length : Int)).toNat v3.1, a0_1, IntKind.i64.wrap (a0_2 + 1))))
                            (none))
                          (none))
                        (some ((true, a0_0, a0_1, a0_2)))))
                    (none))
                  (none))
                (none))
              (none))
            (none))
          (cond (a1_0 == 6)
            (cond (decide (0 ≤ a1_1.tmod (↑a0_0.length : Int)) && decide (a1_1.tmod (↑a0_0.length : Int) < (↑a0_0.length : Int)))
              (cond (decide ((a1_1.tmod (↑a0_0.length : Int)).toNat < a0_0.length))
                (Option.bind (g19 (a0_0.getD (a1_1.tmod (↑a0_0.length : Int)).toNat ((0, 0, 0, 0, 0, 0, []), 0, [], [])).1.1 (a0_0.getD (a1_1.tmod (↑a0_0.length : Int)).toNat ((0, 0, 0, 0, 0, 0, []), 0, [], [])).1.2.1 (a0_0.getD (a1_1.tmod (↑a0_0.length : Int)).toNat ((0, 0, 0, 0, 0, 0, []), 0, [], [])).1.2.2.1 (a0_0.getD (a1_1.tmod (↑a0_0.length : Int)).toNat ((0, 0, 0, 0, 0, 0, []), 0, [], [])).1.2.2.2.1 (a0_0.getD (a1_1.tmod (↑a0_0.length : Int)).toNat ((0, 0, 0, 0, 0, 0, []), 0, [], [])).1.2.2.2.2.1 (a0_0.getD (a1_1.tmod (↑a0_0.length : Int)).toNat ((0, 0, 0, 0, 0, 0, []), 0, [], [])).1.2.2.2.2.2.1 (a0_0.getD (a1_1.tmod (↑a0_0.length : Int)).toNat ((0, 0, 0, 0, 0, 0, []), 0, [], [])).1.2.2.2.2.2.2 (a0_0.getD (a1_1.tmod (↑a0_0.length : Int)).toNat ((0, 0, 0, 0, 0, 0, []), 0, [], [])).2.1 (a0_0.getD (a1_1.tmod (↑a0_0.length : Int)).toNat ((0, 0, 0, 0, 0, 0, []), 0, [], [])).2.2.1 (a0_0.getD (a1_1.tmod (↑a0_0.length : Int)).toNat ((0, 0, 0, 0, 0, 0, []), 0, [], [])).2.2.2) fun v4 =>
                cond (decide (0 ≤ a1_1.tmod (↑a0_0.length : Int)) && decide (a1_1.tmod (↑a0_0.length : Int) < (↑a0_0.length : Int)))
                  (cond (decide ((a1_1.tmod (↑a0_0.length : Int)).toNat < a0_0.length))
                    (some ((true, a0_0.set (a1_1.tmod (↑a0_0.length : Int)).toNat v4, a0_1, a0_2)))
                    (none))
                  (none))
                (none))
              (none))
            (cond ((↑a0_1.length : Int) == 0)
              (some ((true, a0_0, a0_1, a0_2)))
              (cond (!decide ((↑a0_1.length : Int) = 0))
                (cond (decide (0 ≤ a1_2.tmod (↑a0_1.length : Int)) && decide (a1_2.tmod (↑a0_1.length : Int) < (↑a0_1.length : Int)))
                  (cond (decide ((a1_2.tmod (↑a0_1.length : Int)).toNat < a0_1.length))
                    (cond (a1_0 != 4)
                      (cond (decide (0 ≤ a1_2.tmod (↑a0_1.length : Int)) && decide (a1_2.tmod (↑a0_1.length : Int) ≤ (↑a0_1.length : Int)) && decide (a1_2.tmod (↑a0_1.length : Int) = (↑(a1_2.tmod (↑a0_1.length : Int)).toNat : Int)))
                        (cond (decide (0 ≤ IntKind.i64.wrap (a1_2.tmod (↑a0_1.length : Int) + 1)) && decide (IntKind.i64.wrap (a1_2.tmod (↑a0_1.length : Int) + 1) ≤ (↑a0_1.length : Int)) && true)
                          (cond (decide ((a1_2.tmod (↑a0_1.length : Int)).toNat - 0 + (List.take (a0_1.length - (IntKind.i64.wrap (a1_2.tmod (↑a0_1.length : Int) + 1)).toNat) (List.drop (IntKind.i64.wrap (a1_2.tmod (↑a0_1.length : Int) + 1)).toNat a0_1)).length ≤ 2147483647))
                            (cond (a1_0 != 5)
                              (Option.bind (g25 a0_0 (List.take ((a1_2.tmod (↑a0_1.length : Int)).toNat - 0) (List.drop 0 a0_1) ++ List.take (a0_1.length - (IntKind.i64.wrap (a1_2.tmod (↑a0_1.length : Int) + 1)).toNat) (List.drop (IntKind.i64.wrap (a1_2.tmod (↑a0_1.length : Int) + 1)).toNat a0_1)) a0_2 (a0_1.getD (a1_2.tmod (↑a0_1.length : Int)).toNat (0, 0, 0, 0, 0, 0, 0, false, [])).1 (a0_1.getD (a1_2.tmod (↑a0_1.length : Int)).toNat (0, 0, 0, 0, 0, 0, 0, false, [])).2.1 (a0_1.getD (a1_2.tmod (↑a0_1.length : Int)).toNat (0, 0, 0, 0, 0, 0, 0, false, [])).2.2.1 (a0_1.getD (a1_2.tmod (↑a0_1.length : Int)).toNat (0, 0, 0, 0, 0, 0, 0, false, [])).2.2.2.1 (a0_1.getD (a1_2.tmod (↑a0_1.length : Int)).toNat (0, 0, 0, 0, 0, 0, 0, false, [])).2.2.2.2.1 (a0_1.getD (a1_2.tmod (↑a0_1.length : Int)).toNat (0, 0, 0, 0, 0, 0, 0, false, [])).2.2.2.2.2.1 (a0_1.getD (a1_2.tmod (↑a0_1.length : Int)).toNat (0, 0, 0, 0, 0, 0, 0, false, [])).2.2.2.2.2.2.1 (a0_1.getD (a1_2.tmod (↑a0_1.length : Int)).toNat (0, 0, 0, 0, 0, 0, 0, false, [])).2.2.2.2.2.2.2.1 (a0_1.getD (a1_2.tmod (↑a0_1.length : Int)).toNat (0, 0, 0, 0, 0, 0, 0, false, [])).2.2.2.2.2.2.2.2) fun v5 =>
                              some ((v5.1, v5.2)))
                              (some ((true, a0_0, List.take ((a1_2.tmod (↑a0_1.length : Int)).toNat - 0) (List.drop 0 a0_1) ++ List.take (a0_1.length - (IntKind.i64.wrap (a1_2.tmod (↑a0_1.length : Int) + 1)).toNat) (List.drop (IntKind.i64.wrap (a1_2.tmod (↑a0_1.length : Int) + 1)).toNat a0_1), a0_2))))
                            (none))
                          (none))
                        (none))
                      (cond (a1_0 != 5)
                        (Option.bind (g25 a0_0 a0_1 a0_2 (a0_1.getD (a1_2.tmod (↑a0_1.length : Int)).toNat (0, 0, 0, 0, 0, 0, 0, false, [])).1 (a0_1.getD (a1_2.tmod (↑a0_1.length : Int)).toNat (0, 0, 0, 0, 0, 0, 0, false, [])).2.1 (a0_1.getD (a1_2.tmod (↑a0_1.length : Int)).toNat (0, 0, 0, 0, 0, 0, 0, false, [])).2.2.1 (a0_1.getD (a1_2.tmod (↑a0_1.length : Int)).toNat (0, 0, 0, 0, 0, 0, 0, false, [])).2.2.2.1 (a0_1.getD (a1_2.tmod (↑a0_1.length : Int)).toNat (0, 0, 0, 0, 0, 0, 0, false, [])).2.2.2.2.1 (a0_1.getD (a1_2.tmod (↑a0_1.length : Int)).toNat (0, 0, 0, 0, 0, 0, 0, false, [])).2.2.2.2.2.1 (a0_1.getD (a1_2.tmod (↑a0_1.length : Int)).toNat (0, 0, 0, 0, 0, 0, 0, false, [])).2.2.2.2.2.2.1 (a0_1.getD (a1_2.tmod (↑a0_1.length : Int)).toNat (0, 0, 0, 0, 0, 0, 0, false, [])).2.2.2.2.2.2.2.1 (a0_1.getD (a1_2.tmod (↑a0_1.length : Int)).toNat (0, 0, 0, 0, 0, 0, 0, false, [])).2.2.2.2.2.2.2.2) fun v6 =>
                        some ((v6.1, v6.2)))
                        (some ((true, a0_0, a0_1, a0_2)))))
                    (none))
                  (none))
                (none)))))))
    (none)
noncomputable def i21 : FI := ⟨ps21, .ty .b, fun ((a0_0, a0_1, a0_2), (a1_0, a1_1, a1_2)) => g21 a0_0 a0_1 a0_2 a1_0 a1_1 a1_2⟩
theorem e21 : (fun a => i21.G a) = fnEval T Y env21 an i21.ps i21.rs true Try.f21.results.toList lv21 c21 := by kernel_rfl
theorem lo21 : loopsOf c21 = [] := by kernel_rfl
theorem ll21 : LoopsOk T Y env21 an lv21 (finO T true ps21 (.ty .b) Try.f21.results.toList) c21 := loopsOk_of (by rw [lo21]; exact trivial)
theorem k21 : FnOk Try.prog 21 i21 :=
  fn_ok (T := T) (Y := Y) (an := an) (env := env21) (fr := true) (lenv := lv21) mixed tok.1 tok.2 (envCons k15 (envCons k24 (envCons k17 (envCons k19 (envCons k25 (envNil)))))) (fn := Try.f21) (c := c21) (by kernel_rfl) (by kernel_rfl) (by kernel_rfl) ll21 (fun a => congrFun e21 a)
/-! ### broker/brokerlaw41.ReplicaAgrees -/
noncomputable def c5 : Code := Try.f5.body.getD .skip
noncomputable def env5 : Env := mkEnv [(8, i8), (20, i20), (21, i21), (22, i22), (23, i23)]
abbrev ps5 : List PSh := [.d (.i .i64), .d (.sl (.st (.pr (.i .i64) (.pr (.i .i64) (.i .i64)))))]
abbrev D5 : Type := pairD (.ty .b) (osOf ps5)
def ns5_1 : NS := { slots := [(5, .pt 5 []), (51, .hw 4144), (7, .ty (.sl .s)), (33, .ty (.sl (.st (.pr (.i .i64) (.pr (.i .i64) (.i .i64)))))), (34, .ty (.i .i64)), (35, .ty (.i .i64)), (52, .ty (.i .i64)), (53, .ty (.i .i64))], roots := [(4144, .ar 10 (.st (.pr (.st (.pr (.i .i64) (.pr (.i .i64) (.pr (.i .i64) (.pr (.i .i64) (.pr (.i .i64) (.pr (.i .i64) (.sl (.i .i64))))))))) (.pr (.i .i64) (.pr (.sl (.st (.pr (.i .i64) .s))) (.sl (.i .i64))))))), (5, .ag (.pr (.hw 4144) (.pr (.hw 8240) (.ty (.i .i64))))), (8240, .ar 9 (.st (.pr (.i .i64) (.pr (.i .i64) (.pr (.i .i64) (.pr (.i .i64) (.pr (.i .i64) (.pr (.i .i64) (.pr (.i .i64) (.pr .b (.sl (.st (.pr (.i .i64) .s)))))))))))))] }
def ex5_1 : List (Nat × NS) := [(2, { slots := [(5, .pt 5 []), (7, .ty (.sl .s)), (33, .ty (.sl (.st (.pr (.i .i64) (.pr (.i .i64) (.i .i64)))))), (34, .ty (.i .i64)), (35, .ty (.i .i64))], roots := [(5, .ag (.pr (.hw 4144) (.pr (.hw 8240) (.ty (.i .i64))))), (8240, .ar 9 (.st (.pr (.i .i64) (.pr (.i .i64) (.pr (.i .i64) (.pr (.i .i64) (.pr (.i .i64) (.pr (.i .i64) (.pr (.i .i64) (.pr .b (.sl (.st (.pr (.i .i64) .s))))))))))))), (4144, .ar 10 (.st (.pr (.st (.pr (.i .i64) (.pr (.i .i64) (.pr (.i .i64) (.pr (.i .i64) (.pr (.i .i64) (.pr (.i .i64) (.sl (.i .i64))))))))) (.pr (.i .i64) (.pr (.sl (.st (.pr (.i .i64) .s))) (.sl (.i .i64)))))))] })]
noncomputable def st5_1 (ih : ((List (List UInt8) × (List (Int × Int × Int)) × Int × Int × Int × Int) × ((List ((Int × Int × Int × Int × Int × Int × List Int) × Int × List (Int × List UInt8) × List Int)) × (Unit × Unit × Int) × List (Int × Int × Int × Int × Int × Int × Int × Bool × List (Int × List UInt8)))) → Option (((List (List UInt8) × (List (Int × Int × Int)) × Int × Int) × ((Unit × Unit × Int) × (List (Int × Int × Int × Int × Int × Int × Int × Bool × List (Int × List UInt8))) × List ((Int × Int × Int × Int × Int × Int × List Int) × Int × List (Int × List UInt8) × List Int))) ⊕ Bool)) : ((List (List UInt8) × (List (Int × Int × Int)) × Int × Int × Int × Int) × ((List ((Int × Int × Int × Int × Int × Int × List Int) × Int × List (Int × List UInt8) × List Int)) × (Unit × Unit × Int) × List (Int × Int × Int × Int × Int × Int × Int × Bool × List (Int × List UInt8)))) → Option (((List (List UInt8) × (List (Int × Int × Int)) × Int × Int) × ((Unit × Unit × Int) × (List (Int × Int × Int × Int × Int × Int × Int × Bool × List (Int × List UInt8))) × List ((Int × Int × Int × Int × Int × Int × List Int) × Int × List (Int × List UInt8) × List Int))) ⊕ Bool) := fun ((t7, t33, t34, t35, t52, t53), (r4144, ((), (), r5_2), r8240)) =>
  cond (decide (t53 < t52))
    (cond (decide (0 ≤ t53) && decide (t53 < (↑r4144.length : Int)))
      (cond (decide (t53.toNat < r4144.length))
        (Option.bind (g22 (r4144.getD t53.toNat ((0, 0, 0, 0, 0, 0, []), 0, [], [])).1.1 (r4144.getD t53.toNat ((0, 0, 0, 0, 0, 0, []), 0, [], [])).1.2.1 (r4144.getD t53.toNat ((0, 0, 0, 0, 0, 0, []), 0, [], [])).1.2.2.1 (r4144.getD t53.toNat ((0, 0, 0, 0, 0, 0, []), 0, [], [])).1.2.2.2.1 (r4144.getD t53.toNat ((0, 0, 0, 0, 0, 0, []), 0, [], [])).1.2.2.2.2.1 (r4144.getD t53.toNat ((0, 0, 0, 0, 0, 0, []), 0, [], [])).1.2.2.2.2.2.1 (r4144.getD t53.toNat ((0, 0, 0, 0, 0, 0, []), 0, [], [])).1.2.2.2.2.2.2 (r4144.getD t53.toNat ((0, 0, 0, 0, 0, 0, []), 0, [], [])).2.1 (r4144.getD t53.toNat ((0, 0, 0, 0, 0, 0, []), 0, [], [])).2.2.1 (r4144.getD t53.toNat ((0, 0, 0, 0, 0, 0, []), 0, [], [])).2.2.2) fun v1 =>
        cond ((↑(List.length v1) : Int) != (r4144.getD t53.toNat ((0, 0, 0, 0, 0, 0, []), 0, [], [])).2.1)
          (some (Sum.inr false))
          (cond (decide (0 ≤ if false = true then if (↑t7.length : Int) > (↑(List.length v1) : Int) then (↑t7.length : Int) else (↑(List.length v1) : Int) else if (↑t7.length : Int) < (↑(List.length v1) : Int) then (↑t7.length : Int) else (↑(List.length v1) : Int)) && decide ((if false = true then if (↑t7.length : Int) > (↑(List.length v1) : Int) then (↑t7.length : Int) else (↑(List.length v1) : Int) else if (↑t7.length : Int) < (↑(List.length v1) : Int) then (↑t7.length : Int) else (↑(List.length v1) : Int)) ≤ (↑(List.length v1) : Int)) && true)
            (cond (decide (0 ≤ if false = true then if (↑t7.length : Int) > (↑(List.length v1) : Int) then (↑t7.length : Int) else (↑(List.length v1) : Int) else if (↑t7.length : Int) < (↑(List.length v1) : Int) then (↑t7.length : Int) else (↑(List.length v1) : Int)) && decide ((if false = true then if (↑t7.length : Int) > (↑(List.length v1) : Int) then (↑t7.length : Int) else (↑(List.length v1) : Int) else if (↑t7.length : Int) < (↑(List.length v1) : Int) then (↑t7.length : Int) else (↑(List.length v1) : Int)) ≤ (↑t7.length : Int)) && true)
              (Option.bind (g23 (List.drop 0 (List.take (if false = true then if (↑t7.length : Int) > (↑(List.length v1) : Int) then (↑t7.length : Int) else (↑(List.length v1) : Int) else if (↑t7.length : Int) < (↑(List.length v1) : Int) then (↑t7.length : Int) else (↑(List.length v1) : Int)).toNat v1)) (List.drop 0 (List.take (if false = true then if (↑t7.length : Int) > (↑(List.length v1) : Int) then (↑t7.length : Int) else (↑(List.length v1) : Int) else if (↑t7.length : Int) < (↑(List.length v1) : Int) then (↑t7.length : Int) else (↑(List.length v1) : Int)).toNat t7))) fun v2 =>
              cond (!v2)
                (some (Sum.inr false))
                (cond (decide ((↑(List.length v1) : Int) > (↑t7.length : Int)))
                  (ih ((v1, t33, t34, t35, t52, IntKind.i64.wrap (t53 + 1)), r4144, ((), (), r5_2), r8240))
                  (ih ((t7, t33, t34, t35, t52, IntKind.i64.wrap (t53 + 1)), r4144, ((), (), r5_2), r8240))))
              (none))
            (none)))
        (none))
      (none))
    (some (Sum.inl ((t7, t33, t34, t35), ((), (), r5_2), r8240, r4144)))
noncomputable def h5_1 : ((List (List UInt8) × (List (Int × Int × Int)) × Int × Int × Int × Int) × ((List ((Int × Int × Int × Int × Int × Int × List Int) × Int × List (Int × List UInt8) × List Int)) × (Unit × Unit × Int) × List (Int × Int × Int × Int × Int × Int × Int × Bool × List (Int × List UInt8)))) → Option (((List (List UInt8) × (List (Int × Int × Int)) × Int × Int) × ((Unit × Unit × Int) × (List (Int × Int × Int × Int × Int × Int × Int × Bool × List (Int × List UInt8))) × List ((Int × Int × Int × Int × Int × Int × List Int) × Int × List (Int × List UInt8) × List Int))) ⊕ Bool) := loopN st5_1 fuel
noncomputable def l5_1 : LI D5 := ⟨ns5_1, ex5_1, h5_1⟩
def ns5_0 : NS := { slots := [(5, .pt 5 []), (7, .ty (.sl .s)), (33, .ty (.sl (.st (.pr (.i .i64) (.pr (.i .i64) (.i .i64)))))), (34, .ty (.i .i64)), (35, .ty (.i .i64))], roots := [(4124, .ar 10 (.st (.pr (.st (.pr (.i .i64) (.pr (.i .i64) (.pr (.i .i64) (.pr (.i .i64) (.pr (.i .i64) (.pr (.i .i64) (.sl (.i .i64))))))))) (.pr (.i .i64) (.pr (.sl (.st (.pr (.i .i64) .s))) (.sl (.i .i64))))))), (8220, .ar 9 (.st (.pr (.i .i64) (.pr (.i .i64) (.pr (.i .i64) (.pr (.i .i64) (.pr (.i .i64) (.pr (.i .i64) (.pr (.i .i64) (.pr .b (.sl (.st (.pr (.i .i64) .s))))))))))))), (5, .ag (.pr (.hw 4124) (.pr (.hw 8220) (.ty (.i .i64)))))], ad := [{ t := 5, path := [(0, 0)], g := 4124, d := 10, τ := (.st (.pr (.st (.pr (.i .i64) (.pr (.i .i64) (.pr (.i .i64) (.pr (.i .i64) (.pr (.i .i64) (.pr (.i .i64) (.sl (.i .i64))))))))) (.pr (.i .i64) (.pr (.sl (.st (.pr (.i .i64) .s))) (.sl (.i .i64))))) : Ty) }, { t := 5, path := [(1, 1)], g := 8220, d := 9, τ := (.st (.pr (.i .i64) (.pr (.i .i64) (.pr (.i .i64) (.pr (.i .i64) (.pr (.i .i64) (.pr (.i .i64) (.pr (.i .i64) (.pr .b (.sl (.st (.pr (.i .i64) .s))))))))))) : Ty) }] }
def ex5_0 : List (Nat × NS) := [(0, { slots := [], roots := [] })]
noncomputable def st5_0 (ih : ((List (List UInt8) × (List (Int × Int × Int)) × Int × Int) × ((List ((Int × Int × Int × Int × Int × Int × List Int) × Int × List (Int × List UInt8) × List Int)) × (List (Int × Int × Int × Int × Int × Int × Int × Bool × List (Int × List UInt8))) × Unit × Unit × Int)) → Option (((Unit) × (Unit)) ⊕ Bool)) : ((List (List UInt8) × (List (Int × Int × Int)) × Int × Int) × ((List ((Int × Int × Int × Int × Int × Int × List Int) × Int × List (Int × List UInt8) × List Int)) × (List (Int × Int × Int × Int × Int × Int × Int × Bool × List (Int × List UInt8))) × Unit × Unit × Int)) → Option (((Unit) × (Unit)) ⊕ Bool) := fun ((t7, t33, t34, t35), (r4124, r8220, ((), (), r5_2))) =>
  cond (decide (t35 < t34))
    (cond (decide (0 ≤ t35) && decide (t35 < (↑t33.length : Int)))
      (cond (decide ((t33.getD t35.toNat (0, 0, 0)).2.1 < 0))
        (ih ((t7, t33, t34, IntKind.i64.wrap (t35 + 1)), r4124, r8220, (), (), r5_2))
        (cond (decide ((t33.getD t35.toNat (0, 0, 0)).2.2 < 0))
          (ih ((t7, t33, t34, IntKind.i64.wrap (t35 + 1)), r4124, r8220, (), (), r5_2))
          (Option.bind (g21 r4124 r8220 r5_2 (t33.getD t35.toNat (0, 0, 0)).1 (t33.getD t35.toNat (0, 0, 0)).2.1 (t33.getD t35.toNat (0, 0, 0)).2.2) fun v1 =>
          cond (!v1.1)
            (some (Sum.inr false))
            (Option.bind (h5_1 ((t7, t33, t34, t35, (↑(List.length v1.2.1) : Int), 0), v1.2.1, ((), (), v1.2.2.2), v1.2.2.1)) fun v2 =>
            match v2 with
            | .inl x3 =>
              ih ((x3.1.1, x3.1.2.1, x3.1.2.2.1, IntKind.i64.wrap (x3.1.2.2.2 + 1)), x3.2.2.2, x3.2.2.1, (), (), x3.2.1.2.2)
            | .inr x3 =>
              some (Sum.inr x3)))))
      (none))
    (some (Sum.inl ((), ())))
noncomputable def h5_0 : ((List (List UInt8) × (List (Int × Int × Int)) × Int × Int) × ((List ((Int × Int × Int × Int × Int × Int × List Int) × Int × List (Int × List UInt8) × List Int)) × (List (Int × Int × Int × Int × Int × Int × Int × Bool × List (Int × List UInt8))) × Unit × Unit × Int)) → Option (((Unit) × (Unit)) ⊕ Bool) := loopN st5_0 fuel
noncomputable def l5_0 : LI D5 := ⟨ns5_0, ex5_0, h5_0⟩
noncomputable def lv5 : Nat → Option (LI D5) := fun q => if q = 8 then some l5_0 else (fun q => if q = 14 then some l5_1 else (fun _ => none) q) q
noncomputable def g5 (a0 : Int) (a1 : List (Int × Int × Int)) : Option (Bool) :=
  cond (decide (a0 < 1))
    (Option.bind (g8) fun v1 =>
    some (v1))
    (cond (decide (a0 > 7))
      (Option.bind (g8) fun v2 =>
      some (v2))
      (cond (decide ((↑a1.length : Int) > 200))
        (Option.bind (g8) fun v3 =>
        some (v3))
        (Option.bind (g20 a0) fun v4 =>
        cond (!v4.2)
          (some (false))
          (Option.bind (h5_0 (([], a1, (↑a1.length : Int), 0), v4.1.1, v4.1.2.1, (), (), v4.1.2.2)) fun v5 =>
          match v5 with
          | .inl x6 =>
            Option.bind (g8) fun v7 =>
            some (v7)
          | .inr x6 =>
            some (x6)))))
noncomputable def i5 : FI := ⟨ps5, .ty .b, fun (a0, a1) => g5 a0 a1⟩
theorem s5_1 : st5_1 = stepEval T Y env5 an lv5 (finO T true ps5 (.ty .b) Try.f5.results.toList) (loopAt c5 1) ns5_1 ex5_1 := by kernel_rfl
theorem s5_0 : st5_0 = stepEval T Y env5 an lv5 (finO T true ps5 (.ty .b) Try.f5.results.toList) (loopAt c5 0) ns5_0 ex5_0 := by kernel_rfl
theorem e5 : (fun a => i5.G a) = fnEval T Y env5 an i5.ps i5.rs true Try.f5.results.toList lv5 c5 := by kernel_rfl
theorem lo5 : loopsOf c5 = [loopAt c5 0, loopAt c5 1] := by kernel_rfl
theorem ll5 : LoopsOk T Y env5 an lv5 (finO T true ps5 (.ty .b) Try.f5.results.toList) c5 := loopsOk_of (by rw [lo5]; exact ⟨loop1 (li := l5_0) (by kernel_rfl) (by kernel_rfl) s5_0, ⟨loop1 (li := l5_1) (by kernel_rfl) (by kernel_rfl) s5_1, trivial⟩⟩)
theorem k5 : FnOk Try.prog 5 i5 :=
  fn_ok (T := T) (Y := Y) (an := an) (env := env5) (fr := true) (lenv := lv5) mixed tok.1 tok.2 (envCons k8 (envCons k20 (envCons k21 (envCons k22 (envCons k23 (envNil)))))) (fn := Try.f5) (c := c5) (by kernel_rfl) (by kernel_rfl) (by kernel_rfl) ll5 (fun a => congrFun e5 a)
end Go.Proofs.Ytfadalgikdffeaa.EVT
