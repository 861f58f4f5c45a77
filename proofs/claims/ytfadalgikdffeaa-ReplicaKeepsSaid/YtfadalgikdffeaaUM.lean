/- What functions compute, as printed (U, part M). -/
import Derived.Test.YtfadalgikdffeaaUE
set_option linter.unusedVariables false
set_option maxRecDepth 100000
set_option maxHeartbeats 0
namespace Go.Proofs.Ytfadalgikdffeaa.EVT
open Go Go.EV
/-! ### broker/brokerlaw41.ReplicaKeeps -/
noncomputable def c4 : Code := Try.f4.body.getD .skip
noncomputable def env4 : Env := mkEnv [(7, i7), (14, i14), (13, i13), (8, i8), (15, i15), (16, i16), (17, i17), (18, i18), (19, i19)]
abbrev ps4 : List PSh := [.d (.st (.pr (.st (.pr (.i .i64) (.pr (.i .i64) (.pr (.i .i64) (.pr (.i .i64) (.pr (.i .i64) (.pr (.i .i64) (.sl (.i .i64))))))))) (.pr (.i .i64) (.pr (.sl (.st (.pr (.i .i64) .s))) (.sl (.i .i64)))))), .d (.st (.pr (.i .i64) (.pr .s (.st (.pr (.i .i64) (.pr (.i .i64) (.pr (.i .i64) (.pr (.i .i64) (.pr (.i .i64) (.pr (.i .i64) (.pr (.i .i64) (.pr .b (.sl (.st (.pr (.i .i64) .s)))))))))))))))]
abbrev D4 : Type := pairD (.ty .b) (osOf ps4)
def ns4_0 : NS := { slots := [(2, .pt 2 []), (88, .hw 87), (89, .ty (.i .i64)), (90, .ty (.i .i64))], roots := [(87, .ar 10 (.st (.pr (.st (.pr (.i .i64) (.pr (.i .i64) (.pr (.i .i64) (.pr (.i .i64) (.pr (.i .i64) (.pr (.i .i64) (.sl (.i .i64))))))))) (.pr (.i .i64) (.pr (.sl (.st (.pr (.i .i64) .s))) (.sl (.i .i64))))))), (2, .ty (.st (.pr (.st (.pr (.i .i64) (.pr (.i .i64) (.pr (.i .i64) (.pr (.i .i64) (.pr (.i .i64) (.pr (.i .i64) (.sl (.i .i64))))))))) (.pr (.i .i64) (.pr (.sl (.st (.pr (.i .i64) .s))) (.sl (.i .i64)))))))], ad := [{ t := 88, path := [], g := 87, d := 10, τ := (.st (.pr (.st (.pr (.i .i64) (.pr (.i .i64) (.pr (.i .i64) (.pr (.i .i64) (.pr (.i .i64) (.pr (.i .i64) (.sl (.i .i64))))))))) (.pr (.i .i64) (.pr (.sl (.st (.pr (.i .i64) .s))) (.sl (.i .i64))))) : Ty) }] }
def ex4_0 : List (Nat × NS) := [(0, { slots := [(2, .pt 2 [])], roots := [(2, .ty (.st (.pr (.st (.pr (.i .i64) (.pr (.i .i64) (.pr (.i .i64) (.pr (.i .i64) (.pr (.i .i64) (.pr (.i .i64) (.sl (.i .i64))))))))) (.pr (.i .i64) (.pr (.sl (.st (.pr (.i .i64) .s))) (.sl (.i .i64)))))))] })]
noncomputable def st4_0 (ih : ((Int × Int) × ((List ((Int × Int × Int × Int × Int × Int × List Int) × Int × List (Int × List UInt8) × List Int)) × (Int × Int × Int × Int × Int × Int × List Int) × Int × List (Int × List UInt8) × List Int)) → Option (((Unit) × ((Int × Int × Int × Int × Int × Int × List Int) × Int × List (Int × List UInt8) × List Int)) ⊕ Bool)) : ((Int × Int) × ((List ((Int × Int × Int × Int × Int × Int × List Int) × Int × List (Int × List UInt8) × List Int)) × (Int × Int × Int × Int × Int × Int × List Int) × Int × List (Int × List UInt8) × List Int)) → Option (((Unit) × ((Int × Int × Int × Int × Int × Int × List Int) × Int × List (Int × List UInt8) × List Int)) ⊕ Bool) := fun ((t89, t90), (r87, ((r2_0_0, r2_0_1, r2_0_2, r2_0_3, r2_0_4, r2_0_5, r2_0_6), r2_1, r2_2, r2_3))) =>
  cond (decide (t90 < t89))
    (cond (decide (0 ≤ t90) && decide (t90 < (↑r87.length : Int)))
      (cond (decide (t90.toNat < r87.length))
        (Option.bind (g13 (r87.getD t90.toNat ((0, 0, 0, 0, 0, 0, []), 0, [], [])).1.1 (r87.getD t90.toNat ((0, 0, 0, 0, 0, 0, []), 0, [], [])).1.2.1 (r87.getD t90.toNat ((0, 0, 0, 0, 0, 0, []), 0, [], [])).1.2.2.1 (r87.getD t90.toNat ((0, 0, 0, 0, 0, 0, []), 0, [], [])).1.2.2.2.1 (r87.getD t90.toNat ((0, 0, 0, 0, 0, 0, []), 0, [], [])).1.2.2.2.2.1 (r87.getD t90.toNat ((0, 0, 0, 0, 0, 0, []), 0, [], [])).1.2.2.2.2.2.1 (r87.getD t90.toNat ((0, 0, 0, 0, 0, 0, []), 0, [], [])).1.2.2.2.2.2.2 (r87.getD t90.toNat ((0, 0, 0, 0, 0, 0, []), 0, [], [])).2.1 (r87.getD t90.toNat ((0, 0, 0, 0, 0, 0, []), 0, [], [])).2.2.1 (r87.getD t90.toNat ((0, 0, 0, 0, 0, 0, []), 0, [], [])).2.2.2) fun v1 =>
        cond (v1 != 0)
          (some (Sum.inr false))
          (cond (decide ((r87.getD t90.toNat ((0, 0, 0, 0, 0, 0, []), 0, [], [])).1.2.2.1 < r2_0_2))
            (some (Sum.inr false))
            (cond (decide ((r87.getD t90.toNat ((0, 0, 0, 0, 0, 0, []), 0, [], [])).2.1 < r2_1))
              (some (Sum.inr false))
              (cond (decide ((↑(List.length (r87.getD t90.toNat ((0, 0, 0, 0, 0, 0, []), 0, [], [])).2.2.1) : Int) < r2_1))
                (some (Sum.inr false))
                (cond (decide (0 ≤ r2_1) && decide (r2_1 ≤ (↑(List.length (r87.getD t90.toNat ((0, 0, 0, 0, 0, 0, []), 0, [], [])).2.2.1) : Int)) && true)
                  (cond (decide (0 ≤ r2_1) && decide (r2_1 ≤ (↑r2_2.length : Int)) && true)
                    (Option.bind (g18 (List.drop 0 (List.take r2_1.toNat (r87.getD t90.toNat ((0, 0, 0, 0, 0, 0, []), 0, [], [])).2.2.1)) (List.drop 0 (List.take r2_1.toNat r2_2))) fun v2 =>
                    cond (!v2)
                      (some (Sum.inr false))
                      (ih ((t89, IntKind.i64.wrap (t90 + 1)), r87, (r2_0_0, r2_0_1, r2_0_2, r2_0_3, r2_0_4, r2_0_5, r2_0_6), r2_1, r2_2, r2_3)))
                    (none))
                  (none))))))
        (none))
      (none))
    (some (Sum.inl ((), (r2_0_0, r2_0_1, r2_0_2, r2_0_3, r2_0_4, r2_0_5, r2_0_6), r2_1, r2_2, r2_3)))
noncomputable def h4_0 : ((Int × Int) × ((List ((Int × Int × Int × Int × Int × Int × List Int) × Int × List (Int × List UInt8) × List Int)) × (Int × Int × Int × Int × Int × Int × List Int) × Int × List (Int × List UInt8) × List Int)) → Option (((Unit) × ((Int × Int × Int × Int × Int × Int × List Int) × Int × List (Int × List UInt8) × List Int)) ⊕ Bool) := loopN st4_0 fuel
noncomputable def l4_0 : LI D4 := ⟨ns4_0, ex4_0, h4_0⟩
noncomputable def lv4 : Nat → Option (LI D4) := fun q => if q = 12 then some l4_0 else (fun _ => none) q
noncomputable def g4 (a0_0_0 : Int) (a0_0_1 : Int) (a0_0_2 : Int) (a0_0_3 : Int) (a0_0_4 : Int) (a0_0_5 : Int) (a0_0_6 : List Int) (a0_1 : Int) (a0_2 : List (Int × List UInt8)) (a0_3 : List Int) (a1_0 : Int) (a1_1 : List UInt8) (a1_2_0 : Int) (a1_2_1 : Int) (a1_2_2 : Int) (a1_2_3 : Int) (a1_2_4 : Int) (a1_2_5 : Int) (a1_2_6 : Int) (a1_2_7 : Bool) (a1_2_8 : List (Int × List UInt8)) : Option (Bool) :=
  Option.bind (g7 a0_0_0 a0_0_1 a0_0_2 a0_0_3 a0_0_4 a0_0_5 a0_0_6 a0_1 a0_2 a0_3) fun v1 =>
  cond (!v1)
    (Option.bind (g8) fun v2 =>
    some (v2))
    (Option.bind (g14 [(a1_0, a1_1, a1_2_0, a1_2_1, a1_2_2, a1_2_3, a1_2_4, a1_2_5, a1_2_6, a1_2_7, a1_2_8)]) fun v3 =>
    cond (!v3)
      (Option.bind (g8) fun v4 =>
      some (v4))
      (Option.bind (g13 a0_0_0 a0_0_1 a0_0_2 a0_0_3 a0_0_4 a0_0_5 a0_0_6 a0_1 a0_2 a0_3) fun v5 =>
      cond (v5 != 0)
        (Option.bind (g8) fun v6 =>
        some (v6))
        (Option.bind (g15 a0_0_0 a0_0_1 a0_0_2 a0_0_3 a0_0_4 a0_0_5 a0_0_6 a0_1 a0_2 a0_3) fun v7 =>
        Option.bind (g16 a0_0_0 a0_0_1 a0_0_2 a0_0_3 a0_0_4 a0_0_5 a0_0_6 a0_1 a0_2 a0_3 a1_2_0 a1_2_1 a1_2_2 a1_2_3 a1_2_4 a1_2_5 a1_2_6 a1_2_7 a1_2_8) fun v8 =>
        Option.bind (g17 a0_0_0 a0_0_1 a0_0_2 a0_0_3 a0_0_4 a0_0_5 a0_0_6 a0_1 a0_2 a0_3 a1_1) fun v9 =>
        cond (v9.2.2 == 0)
          (cond (v9.2.1 != IntKind.i64.wrap ((↑a0_2.length : Int) + 1))
            (some (false))
            (cond ((↑(List.length v9.1.2.2.1) : Int) != v9.2.1)
              (some (false))
              (cond (decide (0 ≤ IntKind.i64.wrap (v9.2.1 - 1)) && decide (IntKind.i64.wrap (v9.2.1 - 1) < (↑(List.length v9.1.2.2.1) : Int)))
                (cond (!((List.getD v9.1.2.2.1 (IntKind.i64.wrap (v9.2.1 - 1)).toNat (0, [])).1 == a0_0_2 && ((List.getD v9.1.2.2.1 (IntKind.i64.wrap (v9.2.1 - 1)).toNat (0, [])).2 == a1_1 && true)))
                  (some (false))
                  (Option.bind (h4_0 (((↑([v7.1, v8.1] ++ [v9.1]).length : Int), 0), [v7.1, v8.1] ++ [v9.1], (a0_0_0, a0_0_1, a0_0_2, a0_0_3, a0_0_4, a0_0_5, a0_0_6), a0_1, a0_2, a0_3)) fun v10 =>
                  match v10 with
                  | .inl x11 =>
                    Option.bind (g19 x11.2.1.1 x11.2.1.2.1 x11.2.1.2.2.1 x11.2.1.2.2.2.1 x11.2.1.2.2.2.2.1 x11.2.1.2.2.2.2.2.1 x11.2.1.2.2.2.2.2.2 x11.2.2.1 x11.2.2.2.1 x11.2.2.2.2) fun v12 =>
                    Option.bind (g13 v12.1.1 v12.1.2.1 v12.1.2.2.1 v12.1.2.2.2.1 v12.1.2.2.2.2.1 v12.1.2.2.2.2.2.1 v12.1.2.2.2.2.2.2 v12.2.1 v12.2.2.1 v12.2.2.2) fun v13 =>
                    cond (v13 == 0)
                      (cond (v12.1.2.2.1 == x11.2.1.2.2.1)
                        (cond (v12.1.2.2.2.2.1 == x11.2.1.2.2.2.2.1)
                          (cond (v12.2.1 == 0)
                            (cond (v12.1.2.2.2.1 == 0)
                              (Option.bind (g18 v12.2.2.1 x11.2.2.2.1) fun v14 =>
                              cond (v14)
                                (Option.bind (g8) fun v15 =>
                                some (v15))
                                (some (false)))
                              (some (false)))
                            (some (false)))
                          (some (false)))
                        (some (false)))
                      (some (false))
                  | .inr x11 =>
                    some (x11)))
                (none))))
          (Option.bind (h4_0 (((↑2 : Int), 0), [v7.1, v8.1], (a0_0_0, a0_0_1, a0_0_2, a0_0_3, a0_0_4, a0_0_5, a0_0_6), a0_1, a0_2, a0_3)) fun v16 =>
          match v16 with
          | .inl x17 =>
            Option.bind (g19 x17.2.1.1 x17.2.1.2.1 x17.2.1.2.2.1 x17.2.1.2.2.2.1 x17.2.1.2.2.2.2.1 x17.2.1.2.2.2.2.2.1 x17.2.1.2.2.2.2.2.2 x17.2.2.1 x17.2.2.2.1 x17.2.2.2.2) fun v18 =>
            Option.bind (g13 v18.1.1 v18.1.2.1 v18.1.2.2.1 v18.1.2.2.2.1 v18.1.2.2.2.2.1 v18.1.2.2.2.2.2.1 v18.1.2.2.2.2.2.2 v18.2.1 v18.2.2.1 v18.2.2.2) fun v19 =>
            cond (v19 == 0)
              (cond (v18.1.2.2.1 == x17.2.1.2.2.1)
                (cond (v18.1.2.2.2.2.1 == x17.2.1.2.2.2.2.1)
                  (cond (v18.2.1 == 0)
                    (cond (v18.1.2.2.2.1 == 0)
                      (Option.bind (g18 v18.2.2.1 x17.2.2.2.1) fun v20 =>
                      cond (v20)
                        (Option.bind (g8) fun v21 =>
                        some (v21))
                        (some (false)))
                      (some (false)))
                    (some (false)))
                  (some (false)))
                (some (false)))
              (some (false))
          | .inr x17 =>
            some (x17)))))
noncomputable def i4 : FI := ⟨ps4, .ty .b, fun (((a0_0_0, a0_0_1, a0_0_2, a0_0_3, a0_0_4, a0_0_5, a0_0_6), a0_1, a0_2, a0_3), (a1_0, a1_1, (a1_2_0, a1_2_1, a1_2_2, a1_2_3, a1_2_4, a1_2_5, a1_2_6, a1_2_7, a1_2_8))) => g4 a0_0_0 a0_0_1 a0_0_2 a0_0_3 a0_0_4 a0_0_5 a0_0_6 a0_1 a0_2 a0_3 a1_0 a1_1 a1_2_0 a1_2_1 a1_2_2 a1_2_3 a1_2_4 a1_2_5 a1_2_6 a1_2_7 a1_2_8⟩
theorem s4_0 : st4_0 = stepEval T Y env4 an lv4 (finO T true ps4 (.ty .b) Try.f4.results.toList) (loopAt c4 0) ns4_0 ex4_0 := by kernel_rfl
theorem e4 : (fun a => i4.G a) = fnEval T Y env4 an i4.ps i4.rs true Try.f4.results.toList lv4 c4 := by kernel_rfl
theorem lo4 : loopsOf c4 = [loopAt c4 0] := by kernel_rfl
theorem ll4 : LoopsOk T Y env4 an lv4 (finO T true ps4 (.ty .b) Try.f4.results.toList) c4 := loopsOk_of (by rw [lo4]; exact ⟨loop1 (li := l4_0) (by kernel_rfl) (by kernel_rfl) s4_0, trivial⟩)
theorem k4 : FnOk Try.prog 4 i4 :=
  fn_ok (T := T) (Y := Y) (an := an) (env := env4) (fr := true) (lenv := lv4) mixed tok.1 tok.2 (envCons k7 (envCons k14 (envCons k13 (envCons k8 (envCons k15 (envCons k16 (envCons k17 (envCons k18 (envCons k19 (envNil)))))))))) (fn := Try.f4) (c := c4) (by kernel_rfl) (by kernel_rfl) (by kernel_rfl) ll4 (fun a => congrFun e4 a)
end Go.Proofs.Ytfadalgikdffeaa.EVT
