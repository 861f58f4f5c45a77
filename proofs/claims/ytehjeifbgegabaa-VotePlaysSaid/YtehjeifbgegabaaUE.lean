/- What functions compute, as printed (U, part E). -/
import Derived.Test.YtehjeifbgegabaaUB
set_option linter.unusedVariables false
set_option maxRecDepth 100000
set_option maxHeartbeats 0
namespace Go.Proofs.Ytehjeifbgegabaa.EVT
open Go Go.EV
/-! ### broker/brokerlaw40.exampleHolds -/
noncomputable def c7 : Code := Try.f7.body.getD .skip
noncomputable def env7 : Env := mkEnv [(8, i8), (15, i15), (13, i13), (14, i14), (16, i16), (10, i10), (11, i11)]
abbrev ps7 : List PSh := []
abbrev D7 : Type := pairD (.ty .b) (osOf ps7)
def ns7_0 : NS := { slots := [(1, .pt 1 []), (17, .ty (.i .i64))], roots := [(1, .ar 7 (.st (.pr (.i .i64) (.pr (.i .i64) (.pr (.i .i64) (.pr (.i .i64) (.pr (.i .i64) (.pr (.i .i64) (.sl (.i .i64))))))))))] }
def ex7_0 : List (Nat × NS) := [(0, { slots := [(1, .pt 1 [])], roots := [(1, .ar 7 (.st (.pr (.i .i64) (.pr (.i .i64) (.pr (.i .i64) (.pr (.i .i64) (.pr (.i .i64) (.pr (.i .i64) (.sl (.i .i64))))))))))] })]
noncomputable def st7_0 (ih : ((Int) × (List (Int × Int × Int × Int × Int × Int × List Int))) → Option (((Unit) × (List (Int × Int × Int × Int × Int × Int × List Int))) ⊕ Bool)) : ((Int) × (List (Int × Int × Int × Int × Int × Int × List Int))) → Option (((Unit) × (List (Int × Int × Int × Int × Int × Int × List Int))) ⊕ Bool) := fun (t17, r1) =>
  cond (decide (t17 < 3))
    (Option.bind (g8 t17 3) fun v1 =>
    cond (v1.2 != 0)
      (some (Sum.inr false))
      (Option.bind (g15 v1.1.1 v1.1.2.1 v1.1.2.2.1 v1.1.2.2.2.1 v1.1.2.2.2.2.1 v1.1.2.2.2.2.2.1 v1.1.2.2.2.2.2.2 1) fun v2 =>
      cond (decide (0 ≤ t17) && decide (t17 < (↑3 : Int)))
        (cond (decide (t17.toNat < r1.length))
          (ih (IntKind.i64.wrap (t17 + 1), r1.set t17.toNat v2))
          (none))
        (none)))
    (some (Sum.inl ((), r1)))
noncomputable def h7_0 : ((Int) × (List (Int × Int × Int × Int × Int × Int × List Int))) → Option (((Unit) × (List (Int × Int × Int × Int × Int × Int × List Int))) ⊕ Bool) := loopN st7_0 fuel
noncomputable def l7_0 : LI D7 := ⟨ns7_0, ex7_0, h7_0⟩
noncomputable def lv7 : Nat → Option (LI D7) := fun q => if q = 3 then some l7_0 else (fun _ => none) q
noncomputable def g7 : Option (Bool) :=
  Option.bind (h7_0 (0, [(0, 0, 0, 0, 0, 0, []), (0, 0, 0, 0, 0, 0, []), (0, 0, 0, 0, 0, 0, [])])) fun v1 =>
  match v1 with
  | .inl x2 =>
    cond (decide (Int.toNat 0 < List.length x2.2))
      (Option.bind (g13 (List.getD x2.2 (Int.toNat 0) (0, 0, 0, 0, 0, 0, [])).1 (List.getD x2.2 (Int.toNat 0) (0, 0, 0, 0, 0, 0, [])).2.1 (List.getD x2.2 (Int.toNat 0) (0, 0, 0, 0, 0, 0, [])).2.2.1 (List.getD x2.2 (Int.toNat 0) (0, 0, 0, 0, 0, 0, [])).2.2.2.1 (List.getD x2.2 (Int.toNat 0) (0, 0, 0, 0, 0, 0, [])).2.2.2.2.1 (List.getD x2.2 (Int.toNat 0) (0, 0, 0, 0, 0, 0, [])).2.2.2.2.2.1 (List.getD x2.2 (Int.toNat 0) (0, 0, 0, 0, 0, 0, [])).2.2.2.2.2.2 2 1) fun v3 =>
      cond ((↑(List.length v3.2) : Int) != 2)
        (some (false))
        (cond (v3.1.2.2.1 != 2)
          (some (false))
          (cond (v3.1.2.2.2.1 != 1)
            (some (false))
            (cond (decide (0 ≤ 0) && decide (0 < (↑(List.length v3.2) : Int)))
              (cond ((List.getD v3.2 (Int.toNat 0) (0, 0, 0, 0, 0, 0, 0, false, [])).2.2.1 != 1)
                (some (false))
                (cond (decide (0 ≤ 1) && decide (1 < (↑(List.length v3.2) : Int)))
                  (cond ((List.getD v3.2 (Int.toNat 1) (0, 0, 0, 0, 0, 0, 0, false, [])).2.2.1 != 2)
                    (some (false))
                    (cond (decide (Int.toNat 1 < List.length x2.2))
                      (cond (decide (0 ≤ 0) && decide (0 < (↑(List.length v3.2) : Int)))
                        (Option.bind (g14 (List.getD x2.2 (Int.toNat 1) (0, 0, 0, 0, 0, 0, [])).1 (List.getD x2.2 (Int.toNat 1) (0, 0, 0, 0, 0, 0, [])).2.1 (List.getD x2.2 (Int.toNat 1) (0, 0, 0, 0, 0, 0, [])).2.2.1 (List.getD x2.2 (Int.toNat 1) (0, 0, 0, 0, 0, 0, [])).2.2.2.1 (List.getD x2.2 (Int.toNat 1) (0, 0, 0, 0, 0, 0, [])).2.2.2.2.1 (List.getD x2.2 (Int.toNat 1) (0, 0, 0, 0, 0, 0, [])).2.2.2.2.2.1 (List.getD x2.2 (Int.toNat 1) (0, 0, 0, 0, 0, 0, [])).2.2.2.2.2.2 (List.getD v3.2 (Int.toNat 0) (0, 0, 0, 0, 0, 0, 0, false, [])).1 (List.getD v3.2 (Int.toNat 0) (0, 0, 0, 0, 0, 0, 0, false, [])).2.1 (List.getD v3.2 (Int.toNat 0) (0, 0, 0, 0, 0, 0, 0, false, [])).2.2.1 (List.getD v3.2 (Int.toNat 0) (0, 0, 0, 0, 0, 0, 0, false, [])).2.2.2.1 (List.getD v3.2 (Int.toNat 0) (0, 0, 0, 0, 0, 0, 0, false, [])).2.2.2.2.1 (List.getD v3.2 (Int.toNat 0) (0, 0, 0, 0, 0, 0, 0, false, [])).2.2.2.2.2.1 (List.getD v3.2 (Int.toNat 0) (0, 0, 0, 0, 0, 0, 0, false, [])).2.2.2.2.2.2.1 (List.getD v3.2 (Int.toNat 0) (0, 0, 0, 0, 0, 0, 0, false, [])).2.2.2.2.2.2.2.1 (List.getD v3.2 (Int.toNat 0) (0, 0, 0, 0, 0, 0, 0, false, [])).2.2.2.2.2.2.2.2 1 1) fun v4 =>
                        cond (decide (Int.toNat 2 < List.length x2.2))
                          (cond (decide (0 ≤ 1) && decide (1 < (↑(List.length v3.2) : Int)))
                            (Option.bind (g14 (List.getD x2.2 (Int.toNat 2) (0, 0, 0, 0, 0, 0, [])).1 (List.getD x2.2 (Int.toNat 2) (0, 0, 0, 0, 0, 0, [])).2.1 (List.getD x2.2 (Int.toNat 2) (0, 0, 0, 0, 0, 0, [])).2.2.1 (List.getD x2.2 (Int.toNat 2) (0, 0, 0, 0, 0, 0, [])).2.2.2.1 (List.getD x2.2 (Int.toNat 2) (0, 0, 0, 0, 0, 0, [])).2.2.2.2.1 (List.getD x2.2 (Int.toNat 2) (0, 0, 0, 0, 0, 0, [])).2.2.2.2.2.1 (List.getD x2.2 (Int.toNat 2) (0, 0, 0, 0, 0, 0, [])).2.2.2.2.2.2 (List.getD v3.2 (Int.toNat 1) (0, 0, 0, 0, 0, 0, 0, false, [])).1 (List.getD v3.2 (Int.toNat 1) (0, 0, 0, 0, 0, 0, 0, false, [])).2.1 (List.getD v3.2 (Int.toNat 1) (0, 0, 0, 0, 0, 0, 0, false, [])).2.2.1 (List.getD v3.2 (Int.toNat 1) (0, 0, 0, 0, 0, 0, 0, false, [])).2.2.2.1 (List.getD v3.2 (Int.toNat 1) (0, 0, 0, 0, 0, 0, 0, false, [])).2.2.2.2.1 (List.getD v3.2 (Int.toNat 1) (0, 0, 0, 0, 0, 0, 0, false, [])).2.2.2.2.2.1 (List.getD v3.2 (Int.toNat 1) (0, 0, 0, 0, 0, 0, 0, false, [])).2.2.2.2.2.2.1 (List.getD v3.2 (Int.toNat 1) (0, 0, 0, 0, 0, 0, 0, false, [])).2.2.2.2.2.2.2.1 (List.getD v3.2 (Int.toNat 1) (0, 0, 0, 0, 0, 0, 0, false, [])).2.2.2.2.2.2.2.2 3 1) fun v5 =>
                            cond (decide (0 ≤ 0) && decide (0 < (↑(List.length v3.2) : Int)))
                              (Option.bind (g14 v4.1.1 v4.1.2.1 v4.1.2.2.1 v4.1.2.2.2.1 v4.1.2.2.2.2.1 v4.1.2.2.2.2.2.1 v4.1.2.2.2.2.2.2 (List.getD v3.2 (Int.toNat 0) (0, 0, 0, 0, 0, 0, 0, false, [])).1 (List.getD v3.2 (Int.toNat 0) (0, 0, 0, 0, 0, 0, 0, false, [])).2.1 (List.getD v3.2 (Int.toNat 0) (0, 0, 0, 0, 0, 0, 0, false, [])).2.2.1 (List.getD v3.2 (Int.toNat 0) (0, 0, 0, 0, 0, 0, 0, false, [])).2.2.2.1 (List.getD v3.2 (Int.toNat 0) (0, 0, 0, 0, 0, 0, 0, false, [])).2.2.2.2.1 (List.getD v3.2 (Int.toNat 0) (0, 0, 0, 0, 0, 0, 0, false, [])).2.2.2.2.2.1 (List.getD v3.2 (Int.toNat 0) (0, 0, 0, 0, 0, 0, 0, false, [])).2.2.2.2.2.2.1 (List.getD v3.2 (Int.toNat 0) (0, 0, 0, 0, 0, 0, 0, false, [])).2.2.2.2.2.2.2.1 (List.getD v3.2 (Int.toNat 0) (0, 0, 0, 0, 0, 0, 0, false, [])).2.2.2.2.2.2.2.2 1 1) fun v6 =>
                              Option.bind (g14 v4.1.1 v4.1.2.1 v4.1.2.2.1 v4.1.2.2.2.1 v4.1.2.2.2.2.1 v4.1.2.2.2.2.2.1 v4.1.2.2.2.2.2.2 1 2 1 2 9 1 0 false [] 1 1) fun v7 =>
                              Option.bind (g16 v3.1.1 v3.1.2.1 v3.1.2.2.1 v3.1.2.2.2.1 v3.1.2.2.2.2.1 v3.1.2.2.2.2.2.1 v3.1.2.2.2.2.2.2 v4.2.1 v4.2.2.1 v4.2.2.2.1 v4.2.2.2.2.1 v4.2.2.2.2.2.1 v4.2.2.2.2.2.2.1 v4.2.2.2.2.2.2.2.1 v4.2.2.2.2.2.2.2.2.1 v4.2.2.2.2.2.2.2.2.2) fun v8 =>
                              Option.bind (g16 v3.1.1 v3.1.2.1 v3.1.2.2.1 v3.1.2.2.2.1 v3.1.2.2.2.2.1 v3.1.2.2.2.2.2.1 v3.1.2.2.2.2.2.2 v5.2.1 v5.2.2.1 v5.2.2.2.1 v5.2.2.2.2.1 v5.2.2.2.2.2.1 v5.2.2.2.2.2.2.1 v5.2.2.2.2.2.2.2.1 v5.2.2.2.2.2.2.2.2.1 v5.2.2.2.2.2.2.2.2.2) fun v9 =>
                              cond (v4.2.2.2.2.2.2.2.2.1)
                                (cond (!v5.2.2.2.2.2.2.2.2.1)
                                  (cond (v4.1.2.2.2.2.1 == 0)
                                    (cond (v5.1.2.2.1 == 2)
                                      (cond (v5.1.2.2.2.2.1 == -1)
                                        (cond (v6.2.2.2.2.2.2.2.2.1)
                                          (cond (!v7.2.2.2.2.2.2.2.2.1)
                                            (cond (v8.2.2.2.1 == 2)
                                              (cond (v8.2.2.2.2.2.1 == 0)
                                                (Option.bind (g10 v9.1 v9.2.1 v9.2.2.1 v9.2.2.2.1 v9.2.2.2.2.1 v9.2.2.2.2.2.1 v9.2.2.2.2.2.2 v3.1.1 v3.1.2.1 v3.1.2.2.1 v3.1.2.2.2.1 v3.1.2.2.2.2.1 v3.1.2.2.2.2.2.1 v3.1.2.2.2.2.2.2) fun v10 =>
                                                cond (v10)
                                                  (Option.bind (g11 v8.1 v8.2.1 v8.2.2.1 v8.2.2.2.1 v8.2.2.2.2.1 v8.2.2.2.2.2.1 v8.2.2.2.2.2.2) fun v11 =>
                                                  some (v11 == 0))
                                                  (some (false)))
                                                (some (false)))
                                              (some (false)))
                                            (some (false)))
                                          (some (false)))
                                        (some (false)))
                                      (some (false)))
                                    (some (false)))
                                  (some (false)))
                                (some (false)))
                              (none))
                            (none))
                          (none))
                        (none))
                      (none)))
                  (none)))
              (none)))))
      (none)
  | .inr x2 =>
    some (x2)
noncomputable def i7 : FI := ⟨ps7, .ty .b, fun _ => g7⟩
theorem s7_0 : st7_0 = stepEval T Y env7 an lv7 (finO T true ps7 (.ty .b) Try.f7.results.toList) (loopAt c7 0) ns7_0 ex7_0 := by kernel_rfl
theorem e7 : (fun a => i7.G a) = fnEval T Y env7 an i7.ps i7.rs true Try.f7.results.toList lv7 c7 := by kernel_rfl
theorem lo7 : loopsOf c7 = [loopAt c7 0] := by kernel_rfl
theorem ll7 : LoopsOk T Y env7 an lv7 (finO T true ps7 (.ty .b) Try.f7.results.toList) c7 := loopsOk_of (by rw [lo7]; exact ⟨loop1 (li := l7_0) (by kernel_rfl) (by kernel_rfl) s7_0, trivial⟩)
theorem k7 : FnOk Try.prog 7 i7 :=
  fn_ok (T := T) (Y := Y) (an := an) (env := env7) (fr := true) (lenv := lv7) mixed tok.1 tok.2 (envCons k8 (envCons k15 (envCons k13 (envCons k14 (envCons k16 (envCons k10 (envCons k11 (envNil)))))))) (fn := Try.f7) (c := c7) (by kernel_rfl) (by kernel_rfl) (by kernel_rfl) ll7 (fun a => congrFun e7 a)
end Go.Proofs.Ytehjeifbgegabaa.EVT
