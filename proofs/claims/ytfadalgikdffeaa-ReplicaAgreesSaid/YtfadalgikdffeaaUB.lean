/- What functions compute, as printed (U, part B). -/
import Derived.Test.YtfadalgikdffeaaUA
import Derived.Test.YtfadalgikdffeaaUC
set_option linter.unusedVariables false
set_option maxRecDepth 100000
set_option maxHeartbeats 0
namespace Go.Proofs.Ytfadalgikdffeaa.EVT
open Go Go.EV
/-! ### broker/replica.New -/
noncomputable def c9 : Code := Try.f9.body.getD .skip
noncomputable def env9 : Env := mkEnv [(29, i29)]
abbrev ps9 : List PSh := [.d (.i .i64), .d (.i .i64)]
abbrev D9 : Type := pairD (.tup (.pr (.ty (.st (.pr (.st (.pr (.i .i64) (.pr (.i .i64) (.pr (.i .i64) (.pr (.i .i64) (.pr (.i .i64) (.pr (.i .i64) (.sl (.i .i64))))))))) (.pr (.i .i64) (.pr (.sl (.st (.pr (.i .i64) .s))) (.sl (.i .i64))))))) (.ty (.i .i64)))) (osOf ps9)
noncomputable def lv9 : Nat → Option (LI D9) := fun _ => none
noncomputable def g9 (a0 : Int) (a1 : Int) : Option (((Int × Int × Int × Int × Int × Int × List Int) × Int × List (Int × List UInt8) × List Int) × Int) :=
  Option.bind (g29 a0 a1) fun v1 =>
  some (((v1.1, 0, [], []), v1.2))
noncomputable def i9 : FI := ⟨ps9, .tup (.pr (.ty (.st (.pr (.st (.pr (.i .i64) (.pr (.i .i64) (.pr (.i .i64) (.pr (.i .i64) (.pr (.i .i64) (.pr (.i .i64) (.sl (.i .i64))))))))) (.pr (.i .i64) (.pr (.sl (.st (.pr (.i .i64) .s))) (.sl (.i .i64))))))) (.ty (.i .i64))), fun (a0, a1) => g9 a0 a1⟩
theorem e9 : (fun a => i9.G a) = fnEval T Y env9 an i9.ps i9.rs true Try.f9.results.toList lv9 c9 := by kernel_rfl
theorem lo9 : loopsOf c9 = [] := by kernel_rfl
theorem ll9 : LoopsOk T Y env9 an lv9 (finO T true ps9 (.tup (.pr (.ty (.st (.pr (.st (.pr (.i .i64) (.pr (.i .i64) (.pr (.i .i64) (.pr (.i .i64) (.pr (.i .i64) (.pr (.i .i64) (.sl (.i .i64))))))))) (.pr (.i .i64) (.pr (.sl (.st (.pr (.i .i64) .s))) (.sl (.i .i64))))))) (.ty (.i .i64)))) Try.f9.results.toList) c9 := loopsOk_of (by rw [lo9]; exact trivial)
theorem k9 : FnOk Try.prog 9 i9 :=
  fn_ok (T := T) (Y := Y) (an := an) (env := env9) (fr := true) (lenv := lv9) mixed tok.1 tok.2 (envCons k29 (envNil)) (fn := Try.f9) (c := c9) (by kernel_rfl) (by kernel_rfl) (by kernel_rfl) ll9 (fun a => congrFun e9 a)
/-! ### broker/brokerref41.New -/
noncomputable def c10 : Code := Try.f10.body.getD .skip
noncomputable def env10 : Env := mkEnv [(30, i30)]
abbrev ps10 : List PSh := [.d (.i .i64), .d (.i .i64)]
abbrev D10 : Type := pairD (.tup (.pr (.ty (.st (.pr (.st (.pr (.i .i64) (.pr (.i .i64) (.pr (.i .i64) (.pr (.i .i64) (.pr (.i .i64) (.pr (.i .i64) (.sl (.i .i64))))))))) (.pr (.i .i64) (.pr (.sl (.st (.pr (.i .i64) .s))) (.sl (.i .i64))))))) (.ty (.i .i64)))) (osOf ps10)
noncomputable def lv10 : Nat → Option (LI D10) := fun _ => none
noncomputable def g10 (a0 : Int) (a1 : Int) : Option (((Int × Int × Int × Int × Int × Int × List Int) × Int × List (Int × List UInt8) × List Int) × Int) :=
  Option.bind (g30 a0 a1) fun v1 =>
  some (((v1.1, 0, [], []), v1.2))
noncomputable def i10 : FI := ⟨ps10, .tup (.pr (.ty (.st (.pr (.st (.pr (.i .i64) (.pr (.i .i64) (.pr (.i .i64) (.pr (.i .i64) (.pr (.i .i64) (.pr (.i .i64) (.sl (.i .i64))))))))) (.pr (.i .i64) (.pr (.sl (.st (.pr (.i .i64) .s))) (.sl (.i .i64))))))) (.ty (.i .i64))), fun (a0, a1) => g10 a0 a1⟩
theorem e10 : (fun a => i10.G a) = fnEval T Y env10 an i10.ps i10.rs true Try.f10.results.toList lv10 c10 := by kernel_rfl
theorem lo10 : loopsOf c10 = [] := by kernel_rfl
theorem ll10 : LoopsOk T Y env10 an lv10 (finO T true ps10 (.tup (.pr (.ty (.st (.pr (.st (.pr (.i .i64) (.pr (.i .i64) (.pr (.i .i64) (.pr (.i .i64) (.pr (.i .i64) (.pr (.i .i64) (.sl (.i .i64))))))))) (.pr (.i .i64) (.pr (.sl (.st (.pr (.i .i64) .s))) (.sl (.i .i64))))))) (.ty (.i .i64)))) Try.f10.results.toList) c10 := loopsOk_of (by rw [lo10]; exact trivial)
theorem k10 : FnOk Try.prog 10 i10 :=
  fn_ok (T := T) (Y := Y) (an := an) (env := env10) (fr := true) (lenv := lv10) mixed tok.1 tok.2 (envCons k30 (envNil)) (fn := Try.f10) (c := c10) (by kernel_rfl) (by kernel_rfl) (by kernel_rfl) ll10 (fun a => congrFun e10 a)
/-! ### broker/brokerref41.Same -/
noncomputable def c11 : Code := Try.f11.body.getD .skip
noncomputable def env11 : Env := mkEnv [(31, i31), (18, i18), (28, i28)]
abbrev ps11 : List PSh := [.d (.st (.pr (.st (.pr (.i .i64) (.pr (.i .i64) (.pr (.i .i64) (.pr (.i .i64) (.pr (.i .i64) (.pr (.i .i64) (.sl (.i .i64))))))))) (.pr (.i .i64) (.pr (.sl (.st (.pr (.i .i64) .s))) (.sl (.i .i64)))))), .d (.st (.pr (.st (.pr (.i .i64) (.pr (.i .i64) (.pr (.i .i64) (.pr (.i .i64) (.pr (.i .i64) (.pr (.i .i64) (.sl (.i .i64))))))))) (.pr (.i .i64) (.pr (.sl (.st (.pr (.i .i64) .s))) (.sl (.i .i64))))))]
abbrev D11 : Type := pairD (.ty .b) (osOf ps11)
noncomputable def lv11 : Nat → Option (LI D11) := fun _ => none
noncomputable def g11 (a0_0_0 : Int) (a0_0_1 : Int) (a0_0_2 : Int) (a0_0_3 : Int) (a0_0_4 : Int) (a0_0_5 : Int) (a0_0_6 : List Int) (a0_1 : Int) (a0_2 : List (Int × List UInt8)) (a0_3 : List Int) (a1_0_0 : Int) (a1_0_1 : Int) (a1_0_2 : Int) (a1_0_3 : Int) (a1_0_4 : Int) (a1_0_5 : Int) (a1_0_6 : List Int) (a1_1 : Int) (a1_2 : List (Int × List UInt8)) (a1_3 : List Int) : Option (Bool) :=
  Option.bind (g31 a0_0_0 a0_0_1 a0_0_2 a0_0_3 a0_0_4 a0_0_5 a0_0_6 a1_0_0 a1_0_1 a1_0_2 a1_0_3 a1_0_4 a1_0_5 a1_0_6) fun v1 =>
  cond (v1)
    (cond (a0_1 == a1_1)
      (Option.bind (g18 a0_2 a1_2) fun v2 =>
      cond (v2)
        (Option.bind (g28 a0_3 a1_3) fun v3 =>
        some (v3))
        (some (false)))
      (some (false)))
    (some (false))
noncomputable def i11 : FI := ⟨ps11, .ty .b, fun (((a0_0_0, a0_0_1, a0_0_2, a0_0_3, a0_0_4, a0_0_5, a0_0_6), a0_1, a0_2, a0_3), ((a1_0_0, a1_0_1, a1_0_2, a1_0_3, a1_0_4, a1_0_5, a1_0_6), a1_1, a1_2, a1_3)) => g11 a0_0_0 a0_0_1 a0_0_2 a0_0_3 a0_0_4 a0_0_5 a0_0_6 a0_1 a0_2 a0_3 a1_0_0 a1_0_1 a1_0_2 a1_0_3 a1_0_4 a1_0_5 a1_0_6 a1_1 a1_2 a1_3⟩
theorem e11 : (fun a => i11.G a) = fnEval T Y env11 an i11.ps i11.rs true Try.f11.results.toList lv11 c11 := by kernel_rfl
theorem lo11 : loopsOf c11 = [] := by kernel_rfl
theorem ll11 : LoopsOk T Y env11 an lv11 (finO T true ps11 (.ty .b) Try.f11.results.toList) c11 := loopsOk_of (by rw [lo11]; exact trivial)
theorem k11 : FnOk Try.prog 11 i11 :=
  fn_ok (T := T) (Y := Y) (an := an) (env := env11) (fr := true) (lenv := lv11) mixed tok.1 tok.2 (envCons k31 (envCons k18 (envCons k28 (envNil)))) (fn := Try.f11) (c := c11) (by kernel_rfl) (by kernel_rfl) (by kernel_rfl) ll11 (fun a => congrFun e11 a)
/-! ### broker/replica.Check -/
noncomputable def c12 : Code := Try.f12.body.getD .skip
noncomputable def env12 : Env := mkEnv [(32, i32), (33, i33), (34, i34)]
abbrev ps12 : List PSh := [.d (.st (.pr (.st (.pr (.i .i64) (.pr (.i .i64) (.pr (.i .i64) (.pr (.i .i64) (.pr (.i .i64) (.pr (.i .i64) (.sl (.i .i64))))))))) (.pr (.i .i64) (.pr (.sl (.st (.pr (.i .i64) .s))) (.sl (.i .i64))))))]
abbrev D12 : Type := pairD (.ty (.i .i64)) (osOf ps12)
def ns12_0 : NS := { slots := [(1, .pt 1 []), (30, .ty (.sl (.i .i64))), (31, .ty (.i .i64)), (32, .ty (.i .i64))], roots := [(1, .ty (.st (.pr (.st (.pr (.i .i64) (.pr (.i .i64) (.pr (.i .i64) (.pr (.i .i64) (.pr (.i .i64) (.pr (.i .i64) (.sl (.i .i64))))))))) (.pr (.i .i64) (.pr (.sl (.st (.pr (.i .i64) .s))) (.sl (.i .i64)))))))] }
def ex12_0 : List (Nat × NS) := [(0, { slots := [(1, .pt 1 [])], roots := [(1, .ty (.st (.pr (.st (.pr (.i .i64) (.pr (.i .i64) (.pr (.i .i64) (.pr (.i .i64) (.pr (.i .i64) (.pr (.i .i64) (.sl (.i .i64))))))))) (.pr (.i .i64) (.pr (.sl (.st (.pr (.i .i64) .s))) (.sl (.i .i64)))))))] })]
noncomputable def st12_0 (ih : ((List Int × Int × Int) × ((Int × Int × Int × Int × Int × Int × List Int) × Int × List (Int × List UInt8) × List Int)) → Option (((Unit) × ((Int × Int × Int × Int × Int × Int × List Int) × Int × List (Int × List UInt8) × List Int)) ⊕ Int)) : ((List Int × Int × Int) × ((Int × Int × Int × Int × Int × Int × List Int) × Int × List (Int × List UInt8) × List Int)) → Option (((Unit) × ((Int × Int × Int × Int × Int × Int × List Int) × Int × List (Int × List UInt8) × List Int)) ⊕ Int) := fun ((t30, t31, t32), ((r1_0_0, r1_0_1, r1_0_2, r1_0_3, r1_0_4, r1_0_5, r1_0_6), r1_1, r1_2, r1_3)) =>
  cond (decide (t32 < t31))
    (cond (decide (0 ≤ t32) && decide (t32 < (↑t30.length : Int)))
      (cond (decide (t30.getD t32.toNat 0 < 0))
        (some (Sum.inr 1))
        (cond (decide (t30.getD t32.toNat 0 > (↑r1_2.length : Int)))
          (some (Sum.inr 1))
          (ih ((t30, t31, IntKind.i64.wrap (t32 + 1)), (r1_0_0, r1_0_1, r1_0_2, r1_0_3, r1_0_4, r1_0_5, r1_0_6), r1_1, r1_2, r1_3))))
      (none))
    (some (Sum.inl ((), (r1_0_0, r1_0_1, r1_0_2, r1_0_3, r1_0_4, r1_0_5, r1_0_6), r1_1, r1_2, r1_3)))
noncomputable def h12_0 : ((List Int × Int × Int) × ((Int × Int × Int × Int × Int × Int × List Int) × Int × List (Int × List UInt8) × List Int)) → Option (((Unit) × ((Int × Int × Int × Int × Int × Int × List Int) × Int × List (Int × List UInt8) × List Int)) ⊕ Int) := loopN st12_0 fuel
noncomputable def l12_0 : LI D12 := ⟨ns12_0, ex12_0, h12_0⟩
noncomputable def lv12 : Nat → Option (LI D12) := fun q => if q = 13 then some l12_0 else (fun _ => none) q
noncomputable def g12 (a0_0_0 : Int) (a0_0_1 : Int) (a0_0_2 : Int) (a0_0_3 : Int) (a0_0_4 : Int) (a0_0_5 : Int) (a0_0_6 : List Int) (a0_1 : Int) (a0_2 : List (Int × List UInt8)) (a0_3 : List Int) : Option (Int) :=
  Option.bind (g32 a0_0_0 a0_0_1 a0_0_2 a0_0_3 a0_0_4 a0_0_5 a0_0_6) fun v1 =>
  cond (v1 != 0)
    (some (v1))
    (Option.bind (g33 a0_0_0 a0_0_1 a0_0_2 a0_0_3 a0_0_4 a0_0_5 a0_0_6 a0_1 a0_2 a0_3) fun v2 =>
    cond (v2 != 0)
      (some (v2))
      (Option.bind (g34 a0_0_0 a0_0_1 a0_0_2 a0_0_3 a0_0_4 a0_0_5 a0_0_6 a0_1 a0_2 a0_3) fun v3 =>
      cond (v3)
        (cond ((↑a0_3.length : Int) != a0_0_1)
          (some (9))
          (Option.bind (h12_0 ((a0_3, (↑a0_3.length : Int), 0), (a0_0_0, a0_0_1, a0_0_2, a0_0_3, a0_0_4, a0_0_5, a0_0_6), a0_1, a0_2, a0_3)) fun v4 =>
          match v4 with
          | .inl x5 =>
            Option.bind (g34 x5.2.1.1 x5.2.1.2.1 x5.2.1.2.2.1 x5.2.1.2.2.2.1 x5.2.1.2.2.2.2.1 x5.2.1.2.2.2.2.2.1 x5.2.1.2.2.2.2.2.2 x5.2.2.1 x5.2.2.2.1 x5.2.2.2.2) fun v6 =>
            cond (v6)
              (cond (decide (0 ≤ x5.2.1.1) && decide (x5.2.1.1 < (↑(List.length x5.2.2.2.2) : Int)))
                (cond (List.getD x5.2.2.2.2 (Int.toNat x5.2.1.1) 0 != (↑(List.length x5.2.2.2.1) : Int))
                  (some (9))
                  (some (0)))
                (none))
              (some (0))
          | .inr x5 =>
            some (x5)))
        (cond ((↑a0_3.length : Int) != 0)
          (some (9))
          (Option.bind (h12_0 ((a0_3, (↑a0_3.length : Int), 0), (a0_0_0, a0_0_1, a0_0_2, a0_0_3, a0_0_4, a0_0_5, a0_0_6), a0_1, a0_2, a0_3)) fun v7 =>
          match v7 with
          | .inl x8 =>
            Option.bind (g34 x8.2.1.1 x8.2.1.2.1 x8.2.1.2.2.1 x8.2.1.2.2.2.1 x8.2.1.2.2.2.2.1 x8.2.1.2.2.2.2.2.1 x8.2.1.2.2.2.2.2.2 x8.2.2.1 x8.2.2.2.1 x8.2.2.2.2) fun v9 =>
            cond (v9)
              (cond (decide (0 ≤ x8.2.1.1) && decide (x8.2.1.1 < (↑(List.length x8.2.2.2.2) : Int)))
                (cond (List.getD x8.2.2.2.2 (Int.toNat x8.2.1.1) 0 != (↑(List.length x8.2.2.2.1) : Int))
                  (some (9))
                  (some (0)))
                (none))
              (some (0))
          | .inr x8 =>
            some (x8)))))
noncomputable def i12 : FI := ⟨ps12, .ty (.i .i64), fun ((a0_0_0, a0_0_1, a0_0_2, a0_0_3, a0_0_4, a0_0_5, a0_0_6), a0_1, a0_2, a0_3) => g12 a0_0_0 a0_0_1 a0_0_2 a0_0_3 a0_0_4 a0_0_5 a0_0_6 a0_1 a0_2 a0_3⟩
theorem s12_0 : st12_0 = stepEval T Y env12 an lv12 (finO T true ps12 (.ty (.i .i64)) Try.f12.results.toList) (loopAt c12 0) ns12_0 ex12_0 := by kernel_rfl
theorem e12 : (fun a => i12.G a) = fnEval T Y env12 an i12.ps i12.rs true Try.f12.results.toList lv12 c12 := by kernel_rfl
theorem lo12 : loopsOf c12 = [loopAt c12 0] := by kernel_rfl
theorem ll12 : LoopsOk T Y env12 an lv12 (finO T true ps12 (.ty (.i .i64)) Try.f12.results.toList) c12 := loopsOk_of (by rw [lo12]; exact ⟨loop1 (li := l12_0) (by kernel_rfl) (by kernel_rfl) s12_0, trivial⟩)
theorem k12 : FnOk Try.prog 12 i12 :=
  fn_ok (T := T) (Y := Y) (an := an) (env := env12) (fr := true) (lenv := lv12) mixed tok.1 tok.2 (envCons k32 (envCons k33 (envCons k34 (envNil)))) (fn := Try.f12) (c := c12) (by kernel_rfl) (by kernel_rfl) (by kernel_rfl) ll12 (fun a => congrFun e12 a)
/-! ### broker/brokerref41.Check -/
noncomputable def c13 : Code := Try.f13.body.getD .skip
noncomputable def env13 : Env := mkEnv [(35, i35), (36, i36), (37, i37), (38, i38)]
abbrev ps13 : List PSh := [.d (.st (.pr (.st (.pr (.i .i64) (.pr (.i .i64) (.pr (.i .i64) (.pr (.i .i64) (.pr (.i .i64) (.pr (.i .i64) (.sl (.i .i64))))))))) (.pr (.i .i64) (.pr (.sl (.st (.pr (.i .i64) .s))) (.sl (.i .i64))))))]
abbrev D13 : Type := pairD (.ty (.i .i64)) (osOf ps13)
def ns13_1 : NS := { slots := [(1, .pt 1 []), (75, .ty (.sl (.i .i64))), (76, .ty (.i .i64)), (77, .ty (.i .i64))], roots := [(1, .ty (.st (.pr (.st (.pr (.i .i64) (.pr (.i .i64) (.pr (.i .i64) (.pr (.i .i64) (.pr (.i .i64) (.pr (.i .i64) (.sl (.i .i64))))))))) (.pr (.i .i64) (.pr (.sl (.st (.pr (.i .i64) .s))) (.sl (.i .i64)))))))] }
def ex13_1 : List (Nat × NS) := [(2, { slots := [(1, .pt 1 [])], roots := [(1, .ty (.st (.pr (.st (.pr (.i .i64) (.pr (.i .i64) (.pr (.i .i64) (.pr (.i .i64) (.pr (.i .i64) (.pr (.i .i64) (.sl (.i .i64))))))))) (.pr (.i .i64) (.pr (.sl (.st (.pr (.i .i64) .s))) (.sl (.i .i64)))))))] })]
noncomputable def st13_1 (ih : ((List Int × Int × Int) × ((Int × Int × Int × Int × Int × Int × List Int) × Int × List (Int × List UInt8) × List Int)) → Option (((Unit) × ((Int × Int × Int × Int × Int × Int × List Int) × Int × List (Int × List UInt8) × List Int)) ⊕ Int)) : ((List Int × Int × Int) × ((Int × Int × Int × Int × Int × Int × List Int) × Int × List (Int × List UInt8) × List Int)) → Option (((Unit) × ((Int × Int × Int × Int × Int × Int × List Int) × Int × List (Int × List UInt8) × List Int)) ⊕ Int) := fun ((t75, t76, t77), ((r1_0_0, r1_0_1, r1_0_2, r1_0_3, r1_0_4, r1_0_5, r1_0_6), r1_1, r1_2, r1_3)) =>
  cond (decide (t77 < t76))
    (cond (decide (0 ≤ t77) && decide (t77 < (↑t75.length : Int)))
      (Option.bind (g36 (t75.getD t77.toNat 0) 0 (↑r1_2.length : Int)) fun v1 =>
      cond (!v1)
        (some (Sum.inr 1))
        (ih ((t75, t76, IntKind.i64.wrap (t77 + 1)), (r1_0_0, r1_0_1, r1_0_2, r1_0_3, r1_0_4, r1_0_5, r1_0_6), r1_1, r1_2, r1_3)))
      (none))
    (some (Sum.inl ((), (r1_0_0, r1_0_1, r1_0_2, r1_0_3, r1_0_4, r1_0_5, r1_0_6), r1_1, r1_2, r1_3)))
noncomputable def h13_1 : ((List Int × Int × Int) × ((Int × Int × Int × Int × Int × Int × List Int) × Int × List (Int × List UInt8) × List Int)) → Option (((Unit) × ((Int × Int × Int × Int × Int × Int × List Int) × Int × List (Int × List UInt8) × List Int)) ⊕ Int) := loopN st13_1 fuel
noncomputable def l13_1 : LI D13 := ⟨ns13_1, ex13_1, h13_1⟩
def ns13_0 : NS := { slots := [(1, .pt 1 []), (19, .ty (.sl (.st (.pr (.i .i64) .s)))), (20, .ty (.i .i64)), (21, .ty (.i .i64))], roots := [(1, .ty (.st (.pr (.st (.pr (.i .i64) (.pr (.i .i64) (.pr (.i .i64) (.pr (.i .i64) (.pr (.i .i64) (.pr (.i .i64) (.sl (.i .i64))))))))) (.pr (.i .i64) (.pr (.sl (.st (.pr (.i .i64) .s))) (.sl (.i .i64)))))))] }
def ex13_0 : List (Nat × NS) := [(0, { slots := [(1, .pt 1 [])], roots := [(1, .ty (.st (.pr (.st (.pr (.i .i64) (.pr (.i .i64) (.pr (.i .i64) (.pr (.i .i64) (.pr (.i .i64) (.pr (.i .i64) (.sl (.i .i64))))))))) (.pr (.i .i64) (.pr (.sl (.st (.pr (.i .i64) .s))) (.sl (.i .i64)))))))] })]
noncomputable def st13_0 (ih : (((List (Int × List UInt8)) × Int × Int) × ((Int × Int × Int × Int × Int × Int × List Int) × Int × List (Int × List UInt8) × List Int)) → Option (((Unit) × ((Int × Int × Int × Int × Int × Int × List Int) × Int × List (Int × List UInt8) × List Int)) ⊕ Int)) : (((List (Int × List UInt8)) × Int × Int) × ((Int × Int × Int × Int × Int × Int × List Int) × Int × List (Int × List UInt8) × List Int)) → Option (((Unit) × ((Int × Int × Int × Int × Int × Int × List Int) × Int × List (Int × List UInt8) × List Int)) ⊕ Int) := fun ((t19, t20, t21), ((r1_0_0, r1_0_1, r1_0_2, r1_0_3, r1_0_4, r1_0_5, r1_0_6), r1_1, r1_2, r1_3)) =>
  cond (decide (t21 < t20))
    (cond (decide (0 ≤ t21) && decide (t21 < (↑t19.length : Int)))
      (Option.bind (g36 (t19.getD t21.toNat (0, [])).1 1 r1_0_2) fun v1 =>
      cond (!v1)
        (some (Sum.inr 1))
        (Option.bind (g37 r1_2 t21) fun v2 =>
        cond (decide ((t19.getD t21.toNat (0, [])).1 < v2))
          (some (Sum.inr 22))
          (cond (decide ((↑(List.length (t19.getD t21.toNat (0, [])).2) : Int) > 65536))
            (some (Sum.inr 5))
            (ih ((t19, t20, IntKind.i64.wrap (t21 + 1)), (r1_0_0, r1_0_1, r1_0_2, r1_0_3, r1_0_4, r1_0_5, r1_0_6), r1_1, r1_2, r1_3)))))
      (none))
    (some (Sum.inl ((), (r1_0_0, r1_0_1, r1_0_2, r1_0_3, r1_0_4, r1_0_5, r1_0_6), r1_1, r1_2, r1_3)))
noncomputable def h13_0 : (((List (Int × List UInt8)) × Int × Int) × ((Int × Int × Int × Int × Int × Int × List Int) × Int × List (Int × List UInt8) × List Int)) → Option (((Unit) × ((Int × Int × Int × Int × Int × Int × List Int) × Int × List (Int × List UInt8) × List Int)) ⊕ Int) := loopN st13_0 fuel
noncomputable def l13_0 : LI D13 := ⟨ns13_0, ex13_0, h13_0⟩
noncomputable def lv13 : Nat → Option (LI D13) := fun q => if q = 7 then some l13_0 else (fun q => if q = 21 then some l13_1 else (fun _ => none) q) q
noncomputable def g13 (a0_0_0 : Int) (a0_0_1 : Int) (a0_0_2 : Int) (a0_0_3 : Int) (a0_0_4 : Int) (a0_0_5 : Int) (a0_0_6 : List Int) (a0_1 : Int) (a0_2 : List (Int × List UInt8)) (a0_3 : List Int) : Option (Int) :=
  Option.bind (g35 a0_0_0 a0_0_1 a0_0_2 a0_0_3 a0_0_4 a0_0_5 a0_0_6) fun v1 =>
  cond (v1 != 0)
    (some (v1))
    (cond (decide ((↑a0_2.length : Int) > 4096))
      (some (5))
      (Option.bind (h13_0 ((a0_2, (↑a0_2.length : Int), 0), (a0_0_0, a0_0_1, a0_0_2, a0_0_3, a0_0_4, a0_0_5, a0_0_6), a0_1, a0_2, a0_3)) fun v2 =>
      match v2 with
      | .inl x3 =>
        Option.bind (g36 x3.2.2.1 0 (↑(List.length x3.2.2.2.1) : Int)) fun v4 =>
        cond (!v4)
          (some (1))
          (Option.bind (g38 x3.2.1.1 x3.2.1.2.1 x3.2.1.2.2.1 x3.2.1.2.2.2.1 x3.2.1.2.2.2.2.1 x3.2.1.2.2.2.2.2.1 x3.2.1.2.2.2.2.2.2 x3.2.2.1 x3.2.2.2.1 x3.2.2.2.2) fun v5 =>
          cond (!v5)
            (cond (decide ((↑(List.length x3.2.2.2.2) : Int) > 0))
              (some (9))
              (Option.bind (g38 x3.2.1.1 x3.2.1.2.1 x3.2.1.2.2.1 x3.2.1.2.2.2.1 x3.2.1.2.2.2.2.1 x3.2.1.2.2.2.2.2.1 x3.2.1.2.2.2.2.2.2 x3.2.2.1 x3.2.2.2.1 x3.2.2.2.2) fun v6 =>
              cond (v6)
                (cond ((↑(List.length x3.2.2.2.2) : Int) != x3.2.1.2.1)
                  (some (9))
                  (Option.bind (h13_1 ((x3.2.2.2.2, (↑(List.length x3.2.2.2.2) : Int), 0), x3.2)) fun v7 =>
                  match v7 with
                  | .inl x8 =>
                    Option.bind (g38 x8.2.1.1 x8.2.1.2.1 x8.2.1.2.2.1 x8.2.1.2.2.2.1 x8.2.1.2.2.2.2.1 x8.2.1.2.2.2.2.2.1 x8.2.1.2.2.2.2.2.2 x8.2.2.1 x8.2.2.2.1 x8.2.2.2.2) fun v9 =>
                    cond (v9)
                      (cond (decide (0 ≤ x8.2.1.1) && decide (x8.2.1.1 < (↑(List.length x8.2.2.2.2) : Int)))
                        (cond (List.getD x8.2.2.2.2 (Int.toNat x8.2.1.1) 0 != (↑(List.length x8.2.2.2.1) : Int))
                          (some (9))
                          (some (0)))
                        (none))
                      (some (0))
                  | .inr x8 =>
                    some (x8)))
                (Option.bind (h13_1 ((x3.2.2.2.2, (↑(List.length x3.2.2.2.2) : Int), 0), x3.2)) fun v10 =>
                match v10 with
                | .inl x11 =>
                  Option.bind (g38 x11.2.1.1 x11.2.1.2.1 x11.2.1.2.2.1 x11.2.1.2.2.2.1 x11.2.1.2.2.2.2.1 x11.2.1.2.2.2.2.2.1 x11.2.1.2.2.2.2.2.2 x11.2.2.1 x11.2.2.2.1 x11.2.2.2.2) fun v12 =>
                  cond (v12)
                    (cond (decide (0 ≤ x11.2.1.1) && decide (x11.2.1.1 < (↑(List.length x11.2.2.2.2) : Int)))
                      (cond (List.getD x11.2.2.2.2 (Int.toNat x11.2.1.1) 0 != (↑(List.length x11.2.2.2.1) : Int))
                        (some (9))
                        (some (0)))
                      (none))
                    (some (0))
                | .inr x11 =>
                  some (x11))))
            (Option.bind (g38 x3.2.1.1 x3.2.1.2.1 x3.2.1.2.2.1 x3.2.1.2.2.2.1 x3.2.1.2.2.2.2.1 x3.2.1.2.2.2.2.2.1 x3.2.1.2.2.2.2.2.2 x3.2.2.1 x3.2.2.2.1 x3.2.2.2.2) fun v13 =>
            cond (v13)
              (cond ((↑(List.length x3.2.2.2.2) : Int) != x3.2.1.2.1)
                (some (9))
                (Option.bind (h13_1 ((x3.2.2.2.2, (↑(List.length x3.2.2.2.2) : Int), 0), x3.2)) fun v14 =>
                match v14 with
                | .inl x15 =>
                  Option.bind (g38 x15.2.1.1 x15.2.1.2.1 x15.2.1.2.2.1 x15.2.1.2.2.2.1 x15.2.1.2.2.2.2.1 x15.2.1.2.2.2.2.2.1 x15.2.1.2.2.2.2.2.2 x15.2.2.1 x15.2.2.2.1 x15.2.2.2.2) fun v16 =>
                  cond (v16)
                    (cond (decide (0 ≤ x15.2.1.1) && decide (x15.2.1.1 < (↑(List.length x15.2.2.2.2) : Int)))
                      (cond (List.getD x15.2.2.2.2 (Int.toNat x15.2.1.1) 0 != (↑(List.length x15.2.2.2.1) : Int))
                        (some (9))
                        (some (0)))
                      (none))
                    (some (0))
                | .inr x15 =>
                  some (x15)))
              (Option.bind (h13_1 ((x3.2.2.2.2, (↑(List.length x3.2.2.2.2) : Int), 0), x3.2)) fun v17 =>
              match v17 with
              | .inl x18 =>
                Option.bind (g38 x18.2.1.1 x18.2.1.2.1 x18.2.1.2.2.1 x18.2.1.2.2.2.1 x18.2.1.2.2.2.2.1 x18.2.1.2.2.2.2.2.1 x18.2.1.2.2.2.2.2.2 x18.2.2.1 x18.2.2.2.1 x18.2.2.2.2) fun v19 =>
                cond (v19)
                  (cond (decide (0 ≤ x18.2.1.1) && decide (x18.2.1.1 < (↑(List.length x18.2.2.2.2) : Int)))
                    (cond (List.getD x18.2.2.2.2 (Int.toNat x18.2.1.1) 0 != (↑(List.length x18.2.2.2.1) : Int))
                      (some (9))
                      (some (0)))
                    (none))
                  (some (0))
              | .inr x18 =>
                some (x18))))
      | .inr x3 =>
        some (x3)))
noncomputable def i13 : FI := ⟨ps13, .ty (.i .i64), fun ((a0_0_0, a0_0_1, a0_0_2, a0_0_3, a0_0_4, a0_0_5, a0_0_6), a0_1, a0_2, a0_3) => g13 a0_0_0 a0_0_1 a0_0_2 a0_0_3 a0_0_4 a0_0_5 a0_0_6 a0_1 a0_2 a0_3⟩
theorem s13_1 : st13_1 = stepEval T Y env13 an lv13 (finO T true ps13 (.ty (.i .i64)) Try.f13.results.toList) (loopAt c13 1) ns13_1 ex13_1 := by kernel_rfl
theorem s13_0 : st13_0 = stepEval T Y env13 an lv13 (finO T true ps13 (.ty (.i .i64)) Try.f13.results.toList) (loopAt c13 0) ns13_0 ex13_0 := by kernel_rfl
theorem e13 : (fun a => i13.G a) = fnEval T Y env13 an i13.ps i13.rs true Try.f13.results.toList lv13 c13 := by kernel_rfl
theorem lo13 : loopsOf c13 = [loopAt c13 0, loopAt c13 1] := by kernel_rfl
theorem ll13 : LoopsOk T Y env13 an lv13 (finO T true ps13 (.ty (.i .i64)) Try.f13.results.toList) c13 := loopsOk_of (by rw [lo13]; exact ⟨loop1 (li := l13_0) (by kernel_rfl) (by kernel_rfl) s13_0, ⟨loop1 (li := l13_1) (by kernel_rfl) (by kernel_rfl) s13_1, trivial⟩⟩)
theorem k13 : FnOk Try.prog 13 i13 :=
  fn_ok (T := T) (Y := Y) (an := an) (env := env13) (fr := true) (lenv := lv13) mixed tok.1 tok.2 (envCons k35 (envCons k36 (envCons k37 (envCons k38 (envNil))))) (fn := Try.f13) (c := c13) (by kernel_rfl) (by kernel_rfl) (by kernel_rfl) ll13 (fun a => congrFun e13 a)
/-! ### broker/brokerlaw41.brief -/
noncomputable def c26 : Code := Try.f26.body.getD .skip
noncomputable def env26 : Env := mkEnv []
abbrev ps26 : List PSh := [.d (.sl (.st (.pr (.i .i64) .s)))]
abbrev D26 : Type := pairD (.ty .b) (osOf ps26)
def ns26_0 : NS := { slots := [(5, .ty (.sl (.st (.pr (.i .i64) .s)))), (6, .ty (.i .i64)), (7, .ty (.i .i64))], roots := [] }
def ex26_0 : List (Nat × NS) := [(0, { slots := [], roots := [] })]
noncomputable def st26_0 (ih : (((List (Int × List UInt8)) × Int × Int) × (Unit)) → Option (((Unit) × (Unit)) ⊕ Bool)) : (((List (Int × List UInt8)) × Int × Int) × (Unit)) → Option (((Unit) × (Unit)) ⊕ Bool) := fun ((t5, t6, t7), ()) =>
  cond (decide (t7 < t6))
    (cond (decide (0 ≤ t7) && decide (t7 < (↑t5.length : Int)))
      (cond (decide ((↑(List.length (t5.getD t7.toNat (0, [])).2) : Int) > 100))
        (some (Sum.inr false))
        (ih ((t5, t6, IntKind.i64.wrap (t7 + 1)), ())))
      (none))
    (some (Sum.inl ((), ())))
noncomputable def h26_0 : (((List (Int × List UInt8)) × Int × Int) × (Unit)) → Option (((Unit) × (Unit)) ⊕ Bool) := loopN st26_0 fuel
noncomputable def l26_0 : LI D26 := ⟨ns26_0, ex26_0, h26_0⟩
noncomputable def lv26 : Nat → Option (LI D26) := fun q => if q = 2 then some l26_0 else (fun _ => none) q
noncomputable def g26 (a0 : List (Int × List UInt8)) : Option (Bool) :=
  Option.bind (h26_0 ((a0, (↑a0.length : Int), 0), ())) fun v1 =>
  match v1 with
  | .inl x2 =>
    some (true)
  | .inr x2 =>
    some (x2)
noncomputable def i26 : FI := ⟨ps26, .ty .b, fun a0 => g26 a0⟩
theorem s26_0 : st26_0 = stepEval T Y env26 an lv26 (finO T true ps26 (.ty .b) Try.f26.results.toList) (loopAt c26 0) ns26_0 ex26_0 := by kernel_rfl
theorem e26 : (fun a => i26.G a) = fnEval T Y env26 an i26.ps i26.rs true Try.f26.results.toList lv26 c26 := by kernel_rfl
theorem lo26 : loopsOf c26 = [loopAt c26 0] := by kernel_rfl
theorem ll26 : LoopsOk T Y env26 an lv26 (finO T true ps26 (.ty .b) Try.f26.results.toList) c26 := loopsOk_of (by rw [lo26]; exact ⟨loop1 (li := l26_0) (by kernel_rfl) (by kernel_rfl) s26_0, trivial⟩)
theorem k26 : FnOk Try.prog 26 i26 :=
  fn_ok (T := T) (Y := Y) (an := an) (env := env26) (fr := true) (lenv := lv26) mixed tok.1 tok.2 (envNil) (fn := Try.f26) (c := c26) (by kernel_rfl) (by kernel_rfl) (by kernel_rfl) ll26 (fun a => congrFun e26 a)
/-! ### broker/brokerlaw41.few -/
noncomputable def c7 : Code := Try.f7.body.getD .skip
noncomputable def env7 : Env := mkEnv [(26, i26)]
abbrev ps7 : List PSh := [.d (.st (.pr (.st (.pr (.i .i64) (.pr (.i .i64) (.pr (.i .i64) (.pr (.i .i64) (.pr (.i .i64) (.pr (.i .i64) (.sl (.i .i64))))))))) (.pr (.i .i64) (.pr (.sl (.st (.pr (.i .i64) .s))) (.sl (.i .i64))))))]
abbrev D7 : Type := pairD (.ty .b) (osOf ps7)
noncomputable def lv7 : Nat → Option (LI D7) := fun _ => none
noncomputable def g7 (a0_0_0 : Int) (a0_0_1 : Int) (a0_0_2 : Int) (a0_0_3 : Int) (a0_0_4 : Int) (a0_0_5 : Int) (a0_0_6 : List Int) (a0_1 : Int) (a0_2 : List (Int × List UInt8)) (a0_3 : List Int) : Option (Bool) :=
  cond (decide ((↑a0_2.length : Int) ≤ 40))
    (cond (decide ((↑a0_3.length : Int) ≤ 20))
      (cond (decide ((↑a0_0_6.length : Int) ≤ 20))
        (Option.bind (g26 a0_2) fun v1 =>
        some (v1))
        (some (false)))
      (some (false)))
    (some (false))
noncomputable def i7 : FI := ⟨ps7, .ty .b, fun ((a0_0_0, a0_0_1, a0_0_2, a0_0_3, a0_0_4, a0_0_5, a0_0_6), a0_1, a0_2, a0_3) => g7 a0_0_0 a0_0_1 a0_0_2 a0_0_3 a0_0_4 a0_0_5 a0_0_6 a0_1 a0_2 a0_3⟩
theorem e7 : (fun a => i7.G a) = fnEval T Y env7 an i7.ps i7.rs true Try.f7.results.toList lv7 c7 := by kernel_rfl
theorem lo7 : loopsOf c7 = [] := by kernel_rfl
theorem ll7 : LoopsOk T Y env7 an lv7 (finO T true ps7 (.ty .b) Try.f7.results.toList) c7 := loopsOk_of (by rw [lo7]; exact trivial)
theorem k7 : FnOk Try.prog 7 i7 :=
  fn_ok (T := T) (Y := Y) (an := an) (env := env7) (fr := true) (lenv := lv7) mixed tok.1 tok.2 (envCons k26 (envNil)) (fn := Try.f7) (c := c7) (by kernel_rfl) (by kernel_rfl) (by kernel_rfl) ll7 (fun a => congrFun e7 a)
/-! ### broker/brokerlaw41.light -/
noncomputable def c14 : Code := Try.f14.body.getD .skip
noncomputable def env14 : Env := mkEnv [(26, i26)]
abbrev ps14 : List PSh := [.d (.sl (.st (.pr (.i .i64) (.pr .s (.st (.pr (.i .i64) (.pr (.i .i64) (.pr (.i .i64) (.pr (.i .i64) (.pr (.i .i64) (.pr (.i .i64) (.pr (.i .i64) (.pr .b (.sl (.st (.pr (.i .i64) .s))))))))))))))))]
abbrev D14 : Type := pairD (.ty .b) (osOf ps14)
def ns14_0 : NS := { slots := [(0, .ty (.sl (.st (.pr (.i .i64) (.pr .s (.st (.pr (.i .i64) (.pr (.i .i64) (.pr (.i .i64) (.pr (.i .i64) (.pr (.i .i64) (.pr (.i .i64) (.pr (.i .i64) (.pr .b (.sl (.st (.pr (.i .i64) .s))))))))))))))))), (5, .ty (.sl (.st (.pr (.i .i64) (.pr .s (.st (.pr (.i .i64) (.pr (.i .i64) (.pr (.i .i64) (.pr (.i .i64) (.pr (.i .i64) (.pr (.i .i64) (.pr (.i .i64) (.pr .b (.sl (.st (.pr (.i .i64) .s))))))))))))))))), (6, .ty (.i .i64)), (7, .ty (.i .i64))], roots := [] }
def ex14_0 : List (Nat × NS) := [(0, { slots := [(0, .ty (.sl (.st (.pr (.i .i64) (.pr .s (.st (.pr (.i .i64) (.pr (.i .i64) (.pr (.i .i64) (.pr (.i .i64) (.pr (.i .i64) (.pr (.i .i64) (.pr (.i .i64) (.pr .b (.sl (.st (.pr (.i .i64) .s)))))))))))))))))], roots := [] })]
noncomputable def st14_0 (ih : (((List (Int × List UInt8 × Int × Int × Int × Int × Int × Int × Int × Bool × List (Int × List UInt8))) × (List (Int × List UInt8 × Int × Int × Int × Int × Int × Int × Int × Bool × List (Int × List UInt8))) × Int × Int) × (Unit)) → Option (((List (Int × List UInt8 × Int × Int × Int × Int × Int × Int × Int × Bool × List (Int × List UInt8))) × (Unit)) ⊕ Bool)) : (((List (Int × List UInt8 × Int × Int × Int × Int × Int × Int × Int × Bool × List (Int × List UInt8))) × (List (Int × List UInt8 × Int × Int × Int × Int × Int × Int × Int × Bool × List (Int × List UInt8))) × Int × Int) × (Unit)) → Option (((List (Int × List UInt8 × Int × Int × Int × Int × Int × Int × Int × Bool × List (Int × List UInt8))) × (Unit)) ⊕ Bool) := fun ((t0, t5, t6, t7), ()) =>
  cond (decide (t7 < t6))
    (cond (decide (0 ≤ t7) && decide (t7 < (↑t5.length : Int)))
      (cond (decide ((↑(List.length (t5.getD t7.toNat (0, [], 0, 0, 0, 0, 0, 0, 0, false, [])).2.1) : Int) > 100))
        (some (Sum.inr false))
        (cond (decide ((↑(List.length (t5.getD t7.toNat (0, [], 0, 0, 0, 0, 0, 0, 0, false, [])).2.2.2.2.2.2.2.2.2.2) : Int) > 40))
          (some (Sum.inr false))
          (Option.bind (g26 (t5.getD t7.toNat (0, [], 0, 0, 0, 0, 0, 0, 0, false, [])).2.2.2.2.2.2.2.2.2.2) fun v1 =>
          cond (!v1)
            (some (Sum.inr false))
            (ih ((t0, t5, t6, IntKind.i64.wrap (t7 + 1)), ())))))
      (none))
    (some (Sum.inl (t0, ())))
noncomputable def h14_0 : (((List (Int × List UInt8 × Int × Int × Int × Int × Int × Int × Int × Bool × List (Int × List UInt8))) × (List (Int × List UInt8 × Int × Int × Int × Int × Int × Int × Int × Bool × List (Int × List UInt8))) × Int × Int) × (Unit)) → Option (((List (Int × List UInt8 × Int × Int × Int × Int × Int × Int × Int × Bool × List (Int × List UInt8))) × (Unit)) ⊕ Bool) := loopN st14_0 fuel
noncomputable def l14_0 : LI D14 := ⟨ns14_0, ex14_0, h14_0⟩
noncomputable def lv14 : Nat → Option (LI D14) := fun q => if q = 2 then some l14_0 else (fun _ => none) q
noncomputable def g14 (a0 : List (Int × List UInt8 × Int × Int × Int × Int × Int × Int × Int × Bool × List (Int × List UInt8))) : Option (Bool) :=
  Option.bind (h14_0 ((a0, a0, (↑a0.length : Int), 0), ())) fun v1 =>
  match v1 with
  | .inl x2 =>
    some (decide ((↑(List.length x2.1) : Int) ≤ 40))
  | .inr x2 =>
    some (x2)
noncomputable def i14 : FI := ⟨ps14, .ty .b, fun a0 => g14 a0⟩
theorem s14_0 : st14_0 = stepEval T Y env14 an lv14 (finO T true ps14 (.ty .b) Try.f14.results.toList) (loopAt c14 0) ns14_0 ex14_0 := by kernel_rfl
theorem e14 : (fun a => i14.G a) = fnEval T Y env14 an i14.ps i14.rs true Try.f14.results.toList lv14 c14 := by kernel_rfl
theorem lo14 : loopsOf c14 = [loopAt c14 0] := by kernel_rfl
theorem ll14 : LoopsOk T Y env14 an lv14 (finO T true ps14 (.ty .b) Try.f14.results.toList) c14 := loopsOk_of (by rw [lo14]; exact ⟨loop1 (li := l14_0) (by kernel_rfl) (by kernel_rfl) s14_0, trivial⟩)
theorem k14 : FnOk Try.prog 14 i14 :=
  fn_ok (T := T) (Y := Y) (an := an) (env := env14) (fr := true) (lenv := lv14) mixed tok.1 tok.2 (envCons k26 (envNil)) (fn := Try.f14) (c := c14) (by kernel_rfl) (by kernel_rfl) (by kernel_rfl) ll14 (fun a => congrFun e14 a)
/-! ### broker/replica.concerns -/
noncomputable def c43 : Code := Try.f43.body.getD .skip
noncomputable def env43 : Env := mkEnv []
abbrev ps43 : List PSh := [.d (.st (.pr (.i .i64) (.pr (.i .i64) (.pr (.i .i64) (.pr (.i .i64) (.pr (.i .i64) (.pr (.i .i64) (.sl (.i .i64))))))))), .d (.st (.pr (.i .i64) (.pr (.i .i64) (.pr (.i .i64) (.pr (.i .i64) (.pr (.i .i64) (.pr (.i .i64) (.pr (.i .i64) (.pr .b (.sl (.st (.pr (.i .i64) .s))))))))))))]
abbrev D43 : Type := pairD (.ty .b) (osOf ps43)
noncomputable def lv43 : Nat → Option (LI D43) := fun _ => none
noncomputable def g43 (a0_0 : Int) (a0_1 : Int) (a0_2 : Int) (a0_3 : Int) (a0_4 : Int) (a0_5 : Int) (a0_6 : List Int) (a1_0 : Int) (a1_1 : Int) (a1_2 : Int) (a1_3 : Int) (a1_4 : Int) (a1_5 : Int) (a1_6 : Int) (a1_7 : Bool) (a1_8 : List (Int × List UInt8)) : Option (Bool) :=
  cond (a1_2 == a0_0)
    (cond (a1_1 != a0_0)
      (cond (decide (a1_1 ≥ 0))
        (cond (decide (a1_1 < a0_1))
          (cond (decide (a1_3 ≥ 1))
            (some (decide (a1_3 ≤ 1099511627776)))
            (some (false)))
          (some (false)))
        (some (false)))
      (some (false)))
    (some (false))
noncomputable def i43 : FI := ⟨ps43, .ty .b, fun ((a0_0, a0_1, a0_2, a0_3, a0_4, a0_5, a0_6), (a1_0, a1_1, a1_2, a1_3, a1_4, a1_5, a1_6, a1_7, a1_8)) => g43 a0_0 a0_1 a0_2 a0_3 a0_4 a0_5 a0_6 a1_0 a1_1 a1_2 a1_3 a1_4 a1_5 a1_6 a1_7 a1_8⟩
theorem e43 : (fun a => i43.G a) = fnEval T Y env43 an i43.ps i43.rs true Try.f43.results.toList lv43 c43 := by kernel_rfl
theorem lo43 : loopsOf c43 = [] := by kernel_rfl
theorem ll43 : LoopsOk T Y env43 an lv43 (finO T true ps43 (.ty .b) Try.f43.results.toList) c43 := loopsOk_of (by rw [lo43]; exact trivial)
theorem k43 : FnOk Try.prog 43 i43 :=
  fn_ok (T := T) (Y := Y) (an := an) (env := env43) (fr := true) (lenv := lv43) mixed tok.1 tok.2 (envNil) (fn := Try.f43) (c := c43) (by kernel_rfl) (by kernel_rfl) (by kernel_rfl) ll43 (fun a => congrFun e43 a)
/-! ### broker/replica.sound -/
noncomputable def c47 : Code := Try.f47.body.getD .skip
noncomputable def env47 : Env := mkEnv []
abbrev ps47 : List PSh := [.d (.st (.pr (.i .i64) (.pr (.i .i64) (.pr (.i .i64) (.pr (.i .i64) (.pr (.i .i64) (.pr (.i .i64) (.pr (.i .i64) (.pr .b (.sl (.st (.pr (.i .i64) .s))))))))))))]
abbrev D47 : Type := pairD (.ty .b) (osOf ps47)
def ns47_0 : NS := { slots := [(1, .pt 1 []), (3, .ty (.i .i64)), (54, .ty (.sl (.st (.pr (.i .i64) .s)))), (55, .ty (.i .i64)), (56, .ty (.i .i64))], roots := [(1, .ty (.st (.pr (.i .i64) (.pr (.i .i64) (.pr (.i .i64) (.pr (.i .i64) (.pr (.i .i64) (.pr (.i .i64) (.pr (.i .i64) (.pr .b (.sl (.st (.pr (.i .i64) .s)))))))))))))] }
def ex47_0 : List (Nat × NS) := [(0, { slots := [], roots := [] })]
noncomputable def st47_0 (ih : ((Int × (List (Int × List UInt8)) × Int × Int) × (Int × Int × Int × Int × Int × Int × Int × Bool × List (Int × List UInt8))) → Option (((Unit) × (Unit)) ⊕ Bool)) : ((Int × (List (Int × List UInt8)) × Int × Int) × (Int × Int × Int × Int × Int × Int × Int × Bool × List (Int × List UInt8))) → Option (((Unit) × (Unit)) ⊕ Bool) := fun ((t3, t54, t55, t56), (r1_0, r1_1, r1_2, r1_3, r1_4, r1_5, r1_6, r1_7, r1_8)) =>
  cond (decide (t56 < t55))
    (cond (decide (0 ≤ t56) && decide (t56 < (↑t54.length : Int)))
      (cond (decide ((t54.getD t56.toNat (0, [])).1 < t3))
        (some (Sum.inr false))
        (cond (decide ((t54.getD t56.toNat (0, [])).1 > r1_3))
          (some (Sum.inr false))
          (cond (decide ((↑(List.length (t54.getD t56.toNat (0, [])).2) : Int) > 65536))
            (some (Sum.inr false))
            (ih (((t54.getD t56.toNat (0, [])).1, t54, t55, IntKind.i64.wrap (t56 + 1)), r1_0, r1_1, r1_2, r1_3, r1_4, r1_5, r1_6, r1_7, r1_8)))))
      (none))
    (some (Sum.inl ((), ())))
noncomputable def h47_0 : ((Int × (List (Int × List UInt8)) × Int × Int) × (Int × Int × Int × Int × Int × Int × Int × Bool × List (Int × List UInt8))) → Option (((Unit) × (Unit)) ⊕ Bool) := loopN st47_0 fuel
noncomputable def l47_0 : LI D47 := ⟨ns47_0, ex47_0, h47_0⟩
noncomputable def lv47 : Nat → Option (LI D47) := fun q => if q = 7 then some l47_0 else (fun _ => none) q
noncomputable def g47 (a0_0 : Int) (a0_1 : Int) (a0_2 : Int) (a0_3 : Int) (a0_4 : Int) (a0_5 : Int) (a0_6 : Int) (a0_7 : Bool) (a0_8 : List (Int × List UInt8)) : Option (Bool) :=
  cond (decide (a0_4 < 0))
    (some (false))
    (cond (decide (a0_4 > 4096))
      (some (false))
      (cond (decide (a0_6 < 0))
        (some (false))
        (cond (decide ((↑a0_8.length : Int) > 32))
          (some (false))
          (cond (a0_4 == 0)
            (cond (a0_5 != 0)
              (some (false))
              (cond (decide (a0_4 > 0))
                (cond (decide (a0_5 < 1))
                  (some (false))
                  (cond (decide (a0_5 > a0_3))
                    (some (false))
                    (Option.bind (h47_0 ((if true = true then if 1 > a0_5 then 1 else a0_5 else if 1 < a0_5 then 1 else a0_5, a0_8, (↑a0_8.length : Int), 0), a0_0, a0_1, a0_2, a0_3, a0_4, a0_5, a0_6, a0_7, a0_8)) fun v1 =>
                    match v1 with
                    | .inl x2 =>
                      some (true)
                    | .inr x2 =>
                      some (x2))))
                (Option.bind (h47_0 ((if true = true then if 1 > a0_5 then 1 else a0_5 else if 1 < a0_5 then 1 else a0_5, a0_8, (↑a0_8.length : Int), 0), a0_0, a0_1, a0_2, a0_3, a0_4, a0_5, a0_6, a0_7, a0_8)) fun v3 =>
                match v3 with
                | .inl x4 =>
                  some (true)
                | .inr x4 =>
                  some (x4))))
            (cond (decide (a0_4 > 0))
              (cond (decide (a0_5 < 1))
                (some (false))
                (cond (decide (a0_5 > a0_3))
                  (some (false))
                  (Option.bind (h47_0 ((if true = true then if 1 > a0_5 then 1 else a0_5 else if 1 < a0_5 then 1 else a0_5, a0_8, (↑a0_8.length : Int), 0), a0_0, a0_1, a0_2, a0_3, a0_4, a0_5, a0_6, a0_7, a0_8)) fun v5 =>
                  match v5 with
                  | .inl x6 =>
                    some (true)
                  | .inr x6 =>
                    some (x6))))
              (Option.bind (h47_0 ((if true = true then if 1 > a0_5 then 1 else a0_5 else if 1 < a0_5 then 1 else a0_5, a0_8, (↑a0_8.length : Int), 0), a0_0, a0_1, a0_2, a0_3, a0_4, a0_5, a0_6, a0_7, a0_8)) fun v7 =>
              match v7 with
              | .inl x8 =>
                some (true)
              | .inr x8 =>
                some (x8)))))))
noncomputable def i47 : FI := ⟨ps47, .ty .b, fun (a0_0, a0_1, a0_2, a0_3, a0_4, a0_5, a0_6, a0_7, a0_8) => g47 a0_0 a0_1 a0_2 a0_3 a0_4 a0_5 a0_6 a0_7 a0_8⟩
theorem s47_0 : st47_0 = stepEval T Y env47 an lv47 (finO T true ps47 (.ty .b) Try.f47.results.toList) (loopAt c47 0) ns47_0 ex47_0 := by kernel_rfl
theorem e47 : (fun a => i47.G a) = fnEval T Y env47 an i47.ps i47.rs true Try.f47.results.toList lv47 c47 := by kernel_rfl
theorem lo47 : loopsOf c47 = [loopAt c47 0] := by kernel_rfl
theorem ll47 : LoopsOk T Y env47 an lv47 (finO T true ps47 (.ty .b) Try.f47.results.toList) c47 := loopsOk_of (by rw [lo47]; exact ⟨loop1 (li := l47_0) (by kernel_rfl) (by kernel_rfl) s47_0, trivial⟩)
theorem k47 : FnOk Try.prog 47 i47 :=
  fn_ok (T := T) (Y := Y) (an := an) (env := env47) (fr := true) (lenv := lv47) mixed tok.1 tok.2 (envNil) (fn := Try.f47) (c := c47) (by kernel_rfl) (by kernel_rfl) (by kernel_rfl) ll47 (fun a => congrFun e47 a)
/-! ### broker/replica.conflict -/
noncomputable def c63 : Code := Try.f63.body.getD .skip
noncomputable def env63 : Env := mkEnv []
abbrev ps63 : List PSh := [.d (.sl (.st (.pr (.i .i64) .s))), .d (.st (.pr (.i .i64) (.pr (.i .i64) (.pr (.i .i64) (.pr (.i .i64) (.pr (.i .i64) (.pr (.i .i64) (.pr (.i .i64) (.pr .b (.sl (.st (.pr (.i .i64) .s))))))))))))]
abbrev D63 : Type := pairD (.tup (.pr (.ty (.i .i64)) (.ty .b))) (osOf ps63)
def ns63_0 : NS := { slots := [(3, .pt 3 []), (0, .ty (.sl (.st (.pr (.i .i64) .s)))), (10, .ty (.sl (.st (.pr (.i .i64) .s)))), (11, .ty (.i .i64)), (12, .ty (.i .i64))], roots := [(3, .ty (.st (.pr (.i .i64) (.pr (.i .i64) (.pr (.i .i64) (.pr (.i .i64) (.pr (.i .i64) (.pr (.i .i64) (.pr (.i .i64) (.pr .b (.sl (.st (.pr (.i .i64) .s)))))))))))))] }
def ex63_0 : List (Nat × NS) := [(0, { slots := [(3, .pt 3 [])], roots := [(3, .ty (.st (.pr (.i .i64) (.pr (.i .i64) (.pr (.i .i64) (.pr (.i .i64) (.pr (.i .i64) (.pr (.i .i64) (.pr (.i .i64) (.pr .b (.sl (.st (.pr (.i .i64) .s)))))))))))))] })]
noncomputable def st63_0 (ih : (((List (Int × List UInt8)) × (List (Int × List UInt8)) × Int × Int) × (Int × Int × Int × Int × Int × Int × Int × Bool × List (Int × List UInt8))) → Option (((Unit) × (Int × Int × Int × Int × Int × Int × Int × Bool × List (Int × List UInt8))) ⊕ ((Int × Bool)))) : (((List (Int × List UInt8)) × (List (Int × List UInt8)) × Int × Int) × (Int × Int × Int × Int × Int × Int × Int × Bool × List (Int × List UInt8))) → Option (((Unit) × (Int × Int × Int × Int × Int × Int × Int × Bool × List (Int × List UInt8))) ⊕ ((Int × Bool))) := fun ((t0, t10, t11, t12), (r3_0, r3_1, r3_2, r3_3, r3_4, r3_5, r3_6, r3_7, r3_8)) =>
  cond (decide (t12 < t11))
    (cond (decide (0 ≤ t12) && decide (t12 < (↑t10.length : Int)))
      (cond (decide (IntKind.i64.wrap (r3_4 + t12) ≥ (↑t0.length : Int)))
        (some (Sum.inr (t12, false)))
        (cond (decide (0 ≤ IntKind.i64.wrap (r3_4 + t12)) && decide (IntKind.i64.wrap (r3_4 + t12) < (↑t0.length : Int)))
          (cond ((t0.getD (IntKind.i64.wrap (r3_4 + t12)).toNat (0, [])).1 != (t10.getD t12.toNat (0, [])).1)
            (some (Sum.inr (t12, true)))
            (ih ((t0, t10, t11, IntKind.i64.wrap (t12 + 1)), r3_0, r3_1, r3_2, r3_3, r3_4, r3_5, r3_6, r3_7, r3_8)))
          (none)))
      (none))
    (some (Sum.inl ((), r3_0, r3_1, r3_2, r3_3, r3_4, r3_5, r3_6, r3_7, r3_8)))
noncomputable def h63_0 : (((List (Int × List UInt8)) × (List (Int × List UInt8)) × Int × Int) × (Int × Int × Int × Int × Int × Int × Int × Bool × List (Int × List UInt8))) → Option (((Unit) × (Int × Int × Int × Int × Int × Int × Int × Bool × List (Int × List UInt8))) ⊕ ((Int × Bool))) := loopN st63_0 fuel
noncomputable def l63_0 : LI D63 := ⟨ns63_0, ex63_0, h63_0⟩
noncomputable def lv63 : Nat → Option (LI D63) := fun q => if q = 2 then some l63_0 else (fun _ => none) q
noncomputable def g63 (a0 : List (Int × List UInt8)) (a1_0 : Int) (a1_1 : Int) (a1_2 : Int) (a1_3 : Int) (a1_4 : Int) (a1_5 : Int) (a1_6 : Int) (a1_7 : Bool) (a1_8 : List (Int × List UInt8)) : Option (Int × Bool) :=
  Option.bind (h63_0 ((a0, a1_8, (↑a1_8.length : Int), 0), a1_0, a1_1, a1_2, a1_3, a1_4, a1_5, a1_6, a1_7, a1_8)) fun v1 =>
  match v1 with
  | .inl x2 =>
    some (((↑(List.length x2.2.2.2.2.2.2.2.2.2) : Int), false))
  | .inr x2 =>
    some (x2)
noncomputable def i63 : FI := ⟨ps63, .tup (.pr (.ty (.i .i64)) (.ty .b)), fun (a0, (a1_0, a1_1, a1_2, a1_3, a1_4, a1_5, a1_6, a1_7, a1_8)) => g63 a0 a1_0 a1_1 a1_2 a1_3 a1_4 a1_5 a1_6 a1_7 a1_8⟩
theorem s63_0 : st63_0 = stepEval T Y env63 an lv63 (finO T true ps63 (.tup (.pr (.ty (.i .i64)) (.ty .b))) Try.f63.results.toList) (loopAt c63 0) ns63_0 ex63_0 := by kernel_rfl
theorem e63 : (fun a => i63.G a) = fnEval T Y env63 an i63.ps i63.rs true Try.f63.results.toList lv63 c63 := by kernel_rfl
theorem lo63 : loopsOf c63 = [loopAt c63 0] := by kernel_rfl
theorem ll63 : LoopsOk T Y env63 an lv63 (finO T true ps63 (.tup (.pr (.ty (.i .i64)) (.ty .b))) Try.f63.results.toList) c63 := loopsOk_of (by rw [lo63]; exact ⟨loop1 (li := l63_0) (by kernel_rfl) (by kernel_rfl) s63_0, trivial⟩)
theorem k63 : FnOk Try.prog 63 i63 :=
  fn_ok (T := T) (Y := Y) (an := an) (env := env63) (fr := true) (lenv := lv63) mixed tok.1 tok.2 (envNil) (fn := Try.f63) (c := c63) (by kernel_rfl) (by kernel_rfl) (by kernel_rfl) ll63 (fun a => congrFun e63 a)
end Go.Proofs.Ytfadalgikdffeaa.EVT
