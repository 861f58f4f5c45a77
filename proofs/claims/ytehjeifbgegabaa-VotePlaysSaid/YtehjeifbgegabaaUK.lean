/- What functions compute, as printed (U, part K). -/
import Derived.Test.YtehjeifbgegabaaUE
set_option linter.unusedVariables false
set_option maxRecDepth 100000
set_option maxHeartbeats 0
namespace Go.Proofs.Ytehjeifbgegabaa.EVT
open Go Go.EV
/-! ### broker/brokerlaw40.VoteKeeps -/
noncomputable def c4 : Code := Try.f4.body.getD .skip
noncomputable def env4 : Env := mkEnv [(12, i12), (7, i7), (13, i13), (14, i14), (15, i15), (16, i16)]
abbrev ps4 : List PSh := [.d (.st (.pr (.i .i64) (.pr (.i .i64) (.pr (.i .i64) (.pr (.i .i64) (.pr (.i .i64) (.pr (.i .i64) (.sl (.i .i64))))))))), .d (.st (.pr (.i .i64) (.pr (.i .i64) (.pr (.i .i64) (.pr (.i .i64) (.st (.pr (.i .i64) (.pr (.i .i64) (.pr (.i .i64) (.pr (.i .i64) (.pr (.i .i64) (.pr (.i .i64) (.pr (.i .i64) (.pr .b (.sl (.st (.pr (.i .i64) .s)))))))))))))))))]
abbrev D4 : Type := pairD (.ty .b) (osOf ps4)
def ns4_0 : NS := { slots := [(2, .pt 2 []), (7, .pt 7 []), (8, .pt 8 []), (52, .hw 52), (53, .ty (.i .i64)), (54, .ty (.i .i64))], roots := [(52, .ar 7 (.st (.pr (.i .i64) (.pr (.i .i64) (.pr (.i .i64) (.pr (.i .i64) (.pr (.i .i64) (.pr (.i .i64) (.sl (.i .i64)))))))))), (8, .ty (.st (.pr (.i .i64) (.pr (.i .i64) (.pr (.i .i64) (.pr (.i .i64) (.pr (.i .i64) (.pr (.i .i64) (.pr (.i .i64) (.pr .b (.sl (.st (.pr (.i .i64) .s))))))))))))), (7, .ty (.st (.pr (.i .i64) (.pr (.i .i64) (.pr (.i .i64) (.pr (.i .i64) (.pr (.i .i64) (.pr (.i .i64) (.sl (.i .i64)))))))))), (2, .ty (.st (.pr (.i .i64) (.pr (.i .i64) (.pr (.i .i64) (.pr (.i .i64) (.pr (.i .i64) (.pr (.i .i64) (.sl (.i .i64))))))))))] }
def ex4_0 : List (Nat × NS) := [(0, { slots := [(7, .pt 7 []), (8, .pt 8 [])], roots := [(8, .ty (.st (.pr (.i .i64) (.pr (.i .i64) (.pr (.i .i64) (.pr (.i .i64) (.pr (.i .i64) (.pr (.i .i64) (.pr (.i .i64) (.pr .b (.sl (.st (.pr (.i .i64) .s))))))))))))), (7, .ty (.st (.pr (.i .i64) (.pr (.i .i64) (.pr (.i .i64) (.pr (.i .i64) (.pr (.i .i64) (.pr (.i .i64) (.sl (.i .i64))))))))))] })]
noncomputable def st4_0 (ih : ((Int × Int) × ((List (Int × Int × Int × Int × Int × Int × List Int)) × (Int × Int × Int × Int × Int × Int × Int × Bool × List (Int × List UInt8)) × (Int × Int × Int × Int × Int × Int × List Int) × Int × Int × Int × Int × Int × Int × List Int)) → Option (((Unit) × ((Int × Int × Int × Int × Int × Int × Int × Bool × List (Int × List UInt8)) × Int × Int × Int × Int × Int × Int × List Int)) ⊕ Bool)) : ((Int × Int) × ((List (Int × Int × Int × Int × Int × Int × List Int)) × (Int × Int × Int × Int × Int × Int × Int × Bool × List (Int × List UInt8)) × (Int × Int × Int × Int × Int × Int × List Int) × Int × Int × Int × Int × Int × Int × List Int)) → Option (((Unit) × ((Int × Int × Int × Int × Int × Int × Int × Bool × List (Int × List UInt8)) × Int × Int × Int × Int × Int × Int × List Int)) ⊕ Bool) := fun ((t53, t54), (r52, (r8_0, r8_1, r8_2, r8_3, r8_4, r8_5, r8_6, r8_7, r8_8), (r7_0, r7_1, r7_2, r7_3, r7_4, r7_5, r7_6), (r2_0, r2_1, r2_2, r2_3, r2_4, r2_5, r2_6))) =>
  cond (decide (t54 < t53))
    (cond (decide (0 ≤ t54) && decide (t54 < (↑r52.length : Int)))
      (cond (decide (t54.toNat < r52.length))
        (Option.bind (g12 (r52.getD t54.toNat (0, 0, 0, 0, 0, 0, [])).1 (r52.getD t54.toNat (0, 0, 0, 0, 0, 0, [])).2.1 (r52.getD t54.toNat (0, 0, 0, 0, 0, 0, [])).2.2.1 (r52.getD t54.toNat (0, 0, 0, 0, 0, 0, [])).2.2.2.1 (r52.getD t54.toNat (0, 0, 0, 0, 0, 0, [])).2.2.2.2.1 (r52.getD t54.toNat (0, 0, 0, 0, 0, 0, [])).2.2.2.2.2.1 (r52.getD t54.toNat (0, 0, 0, 0, 0, 0, [])).2.2.2.2.2.2) fun v1 =>
        cond (v1 != 0)
          (some (Sum.inr false))
          (cond ((r52.getD t54.toNat (0, 0, 0, 0, 0, 0, [])).1 != r2_0)
            (some (Sum.inr false))
            (cond ((r52.getD t54.toNat (0, 0, 0, 0, 0, 0, [])).2.1 != r2_1)
              (some (Sum.inr false))
              (cond (decide ((r52.getD t54.toNat (0, 0, 0, 0, 0, 0, [])).2.2.1 < r2_2))
                (some (Sum.inr false))
                (cond ((r52.getD t54.toNat (0, 0, 0, 0, 0, 0, [])).2.2.1 == r2_2)
                  (cond ((r52.getD t54.toNat (0, 0, 0, 0, 0, 0, [])).2.2.2.2.1 != r2_4)
                    (cond (r2_4 != -1)
                      (some (Sum.inr false))
                      (ih ((t53, IntKind.i64.wrap (t54 + 1)), r52, (r8_0, r8_1, r8_2, r8_3, r8_4, r8_5, r8_6, r8_7, r8_8), (r7_0, r7_1, r7_2, r7_3, r7_4, r7_5, r7_6), r2_0, r2_1, r2_2, r2_3, r2_4, r2_5, r2_6)))
                    (ih ((t53, IntKind.i64.wrap (t54 + 1)), r52, (r8_0, r8_1, r8_2, r8_3, r8_4, r8_5, r8_6, r8_7, r8_8), (r7_0, r7_1, r7_2, r7_3, r7_4, r7_5, r7_6), r2_0, r2_1, r2_2, r2_3, r2_4, r2_5, r2_6)))
                  (ih ((t53, IntKind.i64.wrap (t54 + 1)), r52, (r8_0, r8_1, r8_2, r8_3, r8_4, r8_5, r8_6, r8_7, r8_8), (r7_0, r7_1, r7_2, r7_3, r7_4, r7_5, r7_6), r2_0, r2_1, r2_2, r2_3, r2_4, r2_5, r2_6)))))))
        (none))
      (none))
    (some (Sum.inl ((), (r8_0, r8_1, r8_2, r8_3, r8_4, r8_5, r8_6, r8_7, r8_8), r7_0, r7_1, r7_2, r7_3, r7_4, r7_5, r7_6)))
noncomputable def h4_0 : ((Int × Int) × ((List (Int × Int × Int × Int × Int × Int × List Int)) × (Int × Int × Int × Int × Int × Int × Int × Bool × List (Int × List UInt8)) × (Int × Int × Int × Int × Int × Int × List Int) × Int × Int × Int × Int × Int × Int × List Int)) → Option (((Unit) × ((Int × Int × Int × Int × Int × Int × Int × Bool × List (Int × List UInt8)) × Int × Int × Int × Int × Int × Int × List Int)) ⊕ Bool) := loopN st4_0 fuel
noncomputable def l4_0 : LI D4 := ⟨ns4_0, ex4_0, h4_0⟩
noncomputable def lv4 : Nat → Option (LI D4) := fun q => if q = 6 then some l4_0 else (fun _ => none) q
noncomputable def g4 (a0_0 : Int) (a0_1 : Int) (a0_2 : Int) (a0_3 : Int) (a0_4 : Int) (a0_5 : Int) (a0_6 : List Int) (a1_0 : Int) (a1_1 : Int) (a1_2 : Int) (a1_3 : Int) (a1_4_0 : Int) (a1_4_1 : Int) (a1_4_2 : Int) (a1_4_3 : Int) (a1_4_4 : Int) (a1_4_5 : Int) (a1_4_6 : Int) (a1_4_7 : Bool) (a1_4_8 : List (Int × List UInt8)) : Option (Bool) :=
  Option.bind (g12 a0_0 a0_1 a0_2 a0_3 a0_4 a0_5 a0_6) fun v1 =>
  cond (v1 != 0)
    (Option.bind (g7) fun v2 =>
    some (v2))
    (cond (decide ((↑a1_4_8.length : Int) > 10))
      (Option.bind (g7) fun v3 =>
      some (v3))
      (Option.bind (g13 a0_0 a0_1 a0_2 a0_3 a0_4 a0_5 a0_6 a1_1 a1_2) fun v4 =>
      Option.bind (g14 a0_0 a0_1 a0_2 a0_3 a0_4 a0_5 a0_6 a1_4_0 a1_4_1 a1_4_2 a1_4_3 a1_4_4 a1_4_5 a1_4_6 a1_4_7 a1_4_8 a1_1 a1_2) fun v5 =>
      Option.bind (g15 a0_0 a0_1 a0_2 a0_3 a0_4 a0_5 a0_6 a1_3) fun v6 =>
      Option.bind (g16 a0_0 a0_1 a0_2 a0_3 a0_4 a0_5 a0_6 a1_4_0 a1_4_1 a1_4_2 a1_4_3 a1_4_4 a1_4_5 a1_4_6 a1_4_7 a1_4_8) fun v7 =>
      Option.bind (h4_0 (((↑4 : Int), 0), [v4.1, v6, v5.1, v7], v5.2, v5.1, a0_0, a0_1, a0_2, a0_3, a0_4, a0_5, a0_6)) fun v8 =>
      match v8 with
      | .inl x9 =>
        cond (!x9.2.1.2.2.2.2.2.2.2.1)
          (Option.bind (g7) fun v10 =>
          some (v10))
          (cond (x9.2.1.2.2.2.1 == x9.2.2.2.2.1)
            (cond (x9.2.2.2.2.2.2.1 == x9.2.1.2.2.1)
              (Option.bind (g7) fun v11 =>
              some (v11))
              (some (false)))
            (some (false)))
      | .inr x9 =>
        some (x9)))
noncomputable def i4 : FI := ⟨ps4, .ty .b, fun ((a0_0, a0_1, a0_2, a0_3, a0_4, a0_5, a0_6), (a1_0, a1_1, a1_2, a1_3, (a1_4_0, a1_4_1, a1_4_2, a1_4_3, a1_4_4, a1_4_5, a1_4_6, a1_4_7, a1_4_8))) => g4 a0_0 a0_1 a0_2 a0_3 a0_4 a0_5 a0_6 a1_0 a1_1 a1_2 a1_3 a1_4_0 a1_4_1 a1_4_2 a1_4_3 a1_4_4 a1_4_5 a1_4_6 a1_4_7 a1_4_8⟩
theorem s4_0 : st4_0 = stepEval T Y env4 an lv4 (finO T true ps4 (.ty .b) Try.f4.results.toList) (loopAt c4 0) ns4_0 ex4_0 := by kernel_rfl
theorem e4 : (fun a => i4.G a) = fnEval T Y env4 an i4.ps i4.rs true Try.f4.results.toList lv4 c4 := by kernel_rfl
theorem lo4 : loopsOf c4 = [loopAt c4 0] := by kernel_rfl
theorem ll4 : LoopsOk T Y env4 an lv4 (finO T true ps4 (.ty .b) Try.f4.results.toList) c4 := loopsOk_of (by rw [lo4]; exact ⟨loop1 (li := l4_0) (by kernel_rfl) (by kernel_rfl) s4_0, trivial⟩)
theorem k4 : FnOk Try.prog 4 i4 :=
  fn_ok (T := T) (Y := Y) (an := an) (env := env4) (fr := true) (lenv := lv4) mixed tok.1 tok.2 (envCons k12 (envCons k7 (envCons k13 (envCons k14 (envCons k15 (envCons k16 (envNil))))))) (fn := Try.f4) (c := c4) (by kernel_rfl) (by kernel_rfl) (by kernel_rfl) ll4 (fun a => congrFun e4 a)
end Go.Proofs.Ytehjeifbgegabaa.EVT
