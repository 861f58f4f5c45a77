/- What functions compute, as printed (U, part L). -/
import Derived.Test.YtkkelbakadbbhaaUS
set_option linter.unusedVariables false
set_option maxRecDepth 100000
set_option maxHeartbeats 0
namespace Go.Proofs.Ytkkelbakadbbhaa.EVT
open Go Go.EV
/-! ### broker/brokerlaw32.SegmentRecovers -/
noncomputable def c17 : Code := Try.f17.body.getD .skip
noncomputable def env17 : Env := mkEnv [(47, i47), (59, i59), (60, i60), (50, i50)]
abbrev ps17 : List PSh := [.d (.sl .u8), .d (.i .i64)]
abbrev D17 : Type := pairD (.ty .b) (osOf ps17)
noncomputable def lv17 : Nat → Option (LI D17) := fun _ => none
noncomputable def g17 (a0 : List UInt8) (a1 : Int) : Option (Bool) :=
  cond (decide ((↑a0.length : Int) > 4000))
    (Option.bind (g47) fun v1 =>
    some (v1))
    (Option.bind (g59 a0 a1) fun v2 =>
    Option.bind (g60 a0 a1) fun v3 =>
    Option.bind (g50 v2.1.1 v2.1.2.1 v2.1.2.2 v3.1.1 v3.1.2.1 v3.1.2.2) fun v4 =>
    cond (v4)
      (cond (v2.2 == v3.2)
        (Option.bind (g47) fun v5 =>
        some (v5))
        (some (false)))
      (some (false)))
noncomputable def i17 : FI := ⟨ps17, .ty .b, fun (a0, a1) => g17 a0 a1⟩
theorem e17 : (fun a => i17.G a) = fnEval T Y env17 an i17.ps i17.rs true Try.f17.results.toList lv17 c17 := by kernel_rfl
theorem lo17 : loopsOf c17 = [] := by kernel_rfl
theorem ll17 : LoopsOk T Y env17 an lv17 (finO T true ps17 (.ty .b) Try.f17.results.toList) c17 := loopsOk_of (by rw [lo17]; exact trivial)
theorem k17 : FnOk Try.prog 17 i17 :=
  fn_ok (T := T) (Y := Y) (an := an) (env := env17) (fr := true) (lenv := lv17) mixed tok.1 tok.2 (envCons k47 (envCons k59 (envCons k60 (envCons k50 (envNil))))) (fn := Try.f17) (c := c17) (by kernel_rfl) (by kernel_rfl) (by kernel_rfl) ll17 (fun a => congrFun e17 a)
/-! ### broker/brokerlaw32.SegmentTorn -/
noncomputable def c19 : Code := Try.f19.body.getD .skip
noncomputable def env19 : Env := mkEnv [(61, i61), (47, i47), (62, i62), (59, i59), (63, i63), (48, i48)]
abbrev ps19 : List PSh := [.d (.i .i64), .d (.sl (.st (.pr (.i .i64) (.pr (.i .i64) (.pr .s .s))))), .d (.i .i64)]
abbrev D19 : Type := pairD (.ty .b) (osOf ps19)
def ns19_0 : NS := { slots := [(7, .pt 7 []), (9, .pt 9 []), (0, .ty (.i .i64)), (1, .ty (.sl (.st (.pr (.i .i64) (.pr (.i .i64) (.pr .s .s)))))), (2, .ty (.i .i64)), (10, .ty (.i .i64)), (11, .ty (.i .i64)), (12, .ty (.i .i64)), (13, .ty (.i .i64))], roots := [(9, .ty (.st (.pr (.i .i64) (.pr (.i .i64) (.sl .u8))))), (7, .ty (.st (.pr (.i .i64) (.pr (.i .i64) (.sl .u8)))))] }
def ex19_0 : List (Nat × NS) := [(0, { slots := [(7, .pt 7 []), (9, .pt 9 []), (0, .ty (.i .i64)), (10, .ty (.i .i64)), (11, .ty (.i .i64)), (12, .ty (.i .i64))], roots := [(9, .ty (.st (.pr (.i .i64) (.pr (.i .i64) (.sl .u8))))), (7, .ty (.st (.pr (.i .i64) (.pr (.i .i64) (.sl .u8)))))] })]
noncomputable def st19_0 (ih : ((Int × (List (Int × Int × List UInt8 × List UInt8)) × Int × Int × Int × Int × Int) × ((Int × Int × List UInt8) × Int × Int × List UInt8)) → Option (((Int × Int × Int × Int) × ((Int × Int × List UInt8) × Int × Int × List UInt8)) ⊕ Bool)) : ((Int × (List (Int × Int × List UInt8 × List UInt8)) × Int × Int × Int × Int × Int) × ((Int × Int × List UInt8) × Int × Int × List UInt8)) → Option (((Int × Int × Int × Int) × ((Int × Int × List UInt8) × Int × Int × List UInt8)) ⊕ Bool) := fun ((t0, t1, t2, t10, t11, t12, t13), ((r9_0, r9_1, r9_2), (r7_0, r7_1, r7_2))) =>
  cond (decide (t13 < (↑t1.length : Int)))
    (cond (decide (0 ≤ t13) && decide (t13 < (↑t1.length : Int)))
      (cond (decide (0 ≤ t13) && decide (t13 < (↑t1.length : Int)))
        (cond (decide (0 ≤ t13) && decide (t13 < (↑t1.length : Int)))
          (Option.bind (g63 (IntKind.i64.wrap (t0 + t13)) (t1.getD t13.toNat (0, 0, [], [])).2.1 (t1.getD t13.toNat (0, 0, [], [])).2.2.1 (t1.getD t13.toNat (0, 0, [], [])).2.2.2) fun v1 =>
          cond (decide (IntKind.i64.wrap (t12 + v1) > t2))
            (some (Sum.inl ((t0, t10, t11, t12), (r9_0, r9_1, r9_2), r7_0, r7_1, r7_2)))
            (ih ((t0, t1, t2, t10, IntKind.i64.wrap (t11 + 1), IntKind.i64.wrap (t12 + v1), IntKind.i64.wrap (t13 + 1)), (r9_0, r9_1, r9_2), r7_0, r7_1, r7_2)))
          (none))
        (none))
      (none))
    (some (Sum.inl ((t0, t10, t11, t12), (r9_0, r9_1, r9_2), r7_0, r7_1, r7_2)))
noncomputable def h19_0 : ((Int × (List (Int × Int × List UInt8 × List UInt8)) × Int × Int × Int × Int × Int) × ((Int × Int × List UInt8) × Int × Int × List UInt8)) → Option (((Int × Int × Int × Int) × ((Int × Int × List UInt8) × Int × Int × List UInt8)) ⊕ Bool) := loopN st19_0 fuel
noncomputable def l19_0 : LI D19 := ⟨ns19_0, ex19_0, h19_0⟩
noncomputable def lv19 : Nat → Option (LI D19) := fun q => if q = 10 then some l19_0 else (fun _ => none) q
noncomputable def g19 (a0 : Int) (a1 : List (Int × Int × List UInt8 × List UInt8)) (a2 : Int) : Option (Bool) :=
  cond (decide (a0 < 0))
    (Option.bind (g47) fun v1 =>
    some (v1))
    (cond (decide (a0 > 1099511627760))
      (Option.bind (g47) fun v2 =>
      some (v2))
      (Option.bind (g61 a1) fun v3 =>
      cond (!v3)
        (Option.bind (g47) fun v4 =>
        some (v4))
        (cond (decide (a2 < 0))
          (Option.bind (g47) fun v5 =>
          some (v5))
          (Option.bind (g62 a0 a1) fun v6 =>
          cond (v6.2 != 0)
            (Option.bind (g47) fun v7 =>
            some (v7))
            (cond (decide (a2 > (↑(List.length v6.1.2.2) : Int)))
              (Option.bind (g47) fun v8 =>
              some (v8))
              (cond (decide (0 ≤ a2) && decide (a2 ≤ (↑(List.length v6.1.2.2) : Int)) && true)
                (Option.bind (g59 (List.drop 0 (List.take a2.toNat v6.1.2.2)) a0) fun v9 =>
                Option.bind (h19_0 ((a0, a1, a2, v9.2, 0, 0, 0), v9.1, v6.1)) fun v10 =>
                match v10 with
                | .inl x11 =>
                  cond (x11.1.2.1 == x11.1.2.2.2)
                    (cond (x11.2.1.1 == x11.1.1)
                      (cond (x11.2.1.2.1 == IntKind.i64.wrap (x11.1.1 + x11.1.2.2.1))
                        (cond (decide (0 ≤ x11.1.2.2.2) && decide (x11.1.2.2.2 ≤ (↑(List.length x11.2.2.2.2) : Int)) && true)
                          (cond (x11.2.1.2.2 == List.drop 0 (List.take (Int.toNat x11.1.2.2.2) x11.2.2.2.2))
                            (Option.bind (g48 x11.2.1.1 x11.2.1.2.1 x11.2.1.2.2) fun v12 =>
                            cond (v12 == 0)
                              (Option.bind (g47) fun v13 =>
                              some (v13))
                              (some (false)))
                            (some (false)))
                          (none))
                        (some (false)))
                      (some (false)))
                    (some (false))
                | .inr x11 =>
                  some (x11))
                (none)))))))
noncomputable def i19 : FI := ⟨ps19, .ty .b, fun (a0, a1, a2) => g19 a0 a1 a2⟩
theorem s19_0 : st19_0 = stepEval T Y env19 an lv19 (finO T true ps19 (.ty .b) Try.f19.results.toList) (loopAt c19 0) ns19_0 ex19_0 := by kernel_rfl
theorem e19 : (fun a => i19.G a) = fnEval T Y env19 an i19.ps i19.rs true Try.f19.results.toList lv19 c19 := by kernel_rfl
theorem lo19 : loopsOf c19 = [loopAt c19 0] := by kernel_rfl
theorem ll19 : LoopsOk T Y env19 an lv19 (finO T true ps19 (.ty .b) Try.f19.results.toList) c19 := loopsOk_of (by rw [lo19]; exact ⟨loop1 (li := l19_0) (by kernel_rfl) (by kernel_rfl) s19_0, trivial⟩)
theorem k19 : FnOk Try.prog 19 i19 :=
  fn_ok (T := T) (Y := Y) (an := an) (env := env19) (fr := true) (lenv := lv19) mixed tok.1 tok.2 (envCons k61 (envCons k47 (envCons k62 (envCons k59 (envCons k63 (envCons k48 (envNil))))))) (fn := Try.f19) (c := c19) (by kernel_rfl) (by kernel_rfl) (by kernel_rfl) ll19 (fun a => congrFun e19 a)
end Go.Proofs.Ytkkelbakadbbhaa.EVT
