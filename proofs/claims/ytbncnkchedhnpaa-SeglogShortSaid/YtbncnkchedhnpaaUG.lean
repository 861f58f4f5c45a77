/- What functions compute, as printed (U, part G). -/
import Derived.Test.YtbncnkchedhnpaaUI
set_option linter.unusedVariables false
set_option maxRecDepth 100000
set_option maxHeartbeats 0
namespace Go.Proofs.Ytbncnkchedhnpaa.EVT
open Go Go.EV
/-! ### broker/seglog.copied -/
noncomputable def c34 : Code := Try.f34.body.getD .skip
noncomputable def env34 : Env := mkEnv []
abbrev ps34 : List PSh := [.d (.st (.pr (.i .i64) (.pr (.i .i64) (.sl .u8))))]
abbrev D34 : Type := pairD (.ty (.st (.pr (.i .i64) (.pr (.i .i64) (.sl .u8))))) (osOf ps34)
noncomputable def lv34 : Nat → Option (LI D34) := fun _ => none
noncomputable def g34 (a0_0 : Int) (a0_1 : Int) (a0_2 : List UInt8) : Option (Int × Int × List UInt8) :=
  cond (decide (0 + a0_2.length ≤ 2147483647))
    (some ((a0_0, a0_1, [] ++ a0_2)))
    (none)
noncomputable def i34 : FI := ⟨ps34, .ty (.st (.pr (.i .i64) (.pr (.i .i64) (.sl .u8)))), fun (a0_0, a0_1, a0_2) => g34 a0_0 a0_1 a0_2⟩
theorem e34 : (fun a => i34.G a) = fnEval T Y env34 an i34.ps i34.rs true Try.f34.results.toList lv34 c34 := by kernel_rfl
theorem lo34 : loopsOf c34 = [] := by kernel_rfl
theorem ll34 : LoopsOk T Y env34 an lv34 (finO T true ps34 (.ty (.st (.pr (.i .i64) (.pr (.i .i64) (.sl .u8))))) Try.f34.results.toList) c34 := loopsOk_of (by rw [lo34]; exact trivial)
theorem k34 : FnOk Try.prog 34 i34 :=
  fn_ok (T := T) (Y := Y) (an := an) (env := env34) (fr := true) (lenv := lv34) mixed tok.1 tok.2 (envNil) (fn := Try.f34) (c := c34) (by kernel_rfl) (by kernel_rfl) (by kernel_rfl) ll34 (fun a => congrFun e34 a)
/-! ### broker/seglog.New -/
noncomputable def c9 : Code := Try.f9.body.getD .skip
noncomputable def env9 : Env := mkEnv [(27, i27)]
abbrev ps9 : List PSh := [.d (.i .i64)]
abbrev D9 : Type := pairD (.tup (.pr (.opt (.ag (.pr (.ty (.i .i64)) (.ow 3 (.st (.pr (.i .i64) (.pr (.i .i64) (.sl .u8)))))))) (.ty (.i .i64)))) (osOf ps9)
noncomputable def lv9 : Nat → Option (LI D9) := fun _ => none
noncomputable def g9 (a0 : Int) : Option ((Option (Int × List (Int × Int × List UInt8))) × Int) :=
  cond (decide (a0 < 64))
    (some ((none, 1)))
    (cond (decide (a0 > 65536))
      (some ((none, 1)))
      (Option.bind (g27 0) fun v1 =>
      some ((some (a0, [v1]), 0))))
noncomputable def i9 : FI := ⟨ps9, .tup (.pr (.opt (.ag (.pr (.ty (.i .i64)) (.ow 3 (.st (.pr (.i .i64) (.pr (.i .i64) (.sl .u8)))))))) (.ty (.i .i64))), fun a0 => g9 a0⟩
theorem e9 : (fun a => i9.G a) = fnEval T Y env9 an i9.ps i9.rs false Try.f9.results.toList lv9 c9 := by kernel_rfl
theorem lo9 : loopsOf c9 = [] := by kernel_rfl
theorem ll9 : LoopsOk T Y env9 an lv9 (finO T false ps9 (.tup (.pr (.opt (.ag (.pr (.ty (.i .i64)) (.ow 3 (.st (.pr (.i .i64) (.pr (.i .i64) (.sl .u8)))))))) (.ty (.i .i64)))) Try.f9.results.toList) c9 := loopsOk_of (by rw [lo9]; exact trivial)
theorem k9 : FnOk Try.prog 9 i9 :=
  fn_ok (T := T) (Y := Y) (an := an) (env := env9) (fr := false) (lenv := lv9) mixed tok.1 tok.2 (envCons k27 (envNil)) (fn := Try.f9) (c := c9) (by kernel_rfl) (by kernel_rfl) (by kernel_rfl) ll9 (fun a => congrFun e9 a)
/-! ### (*broker/seglog.Log).First -/
noncomputable def c12 : Code := Try.f12.body.getD .skip
noncomputable def env12 : Env := mkEnv []
abbrev ps12 : List PSh := [.io (.ob (.ag (.pr (.ty (.i .i64)) (.ow 3 (.st (.pr (.i .i64) (.pr (.i .i64) (.sl .u8)))))))) (.ob (.ag (.pr (.ty (.i .i64)) (.ow 3 (.st (.pr (.i .i64) (.pr (.i .i64) (.sl .u8))))))))]
abbrev D12 : Type := pairD (.ty (.i .i64)) (osOf ps12)
noncomputable def lv12 : Nat → Option (LI D12) := fun _ => none
noncomputable def g12 (a0_0 : Int) (a0_1 : List (Int × Int × List UInt8)) : Option (Int × Int × List (Int × Int × List UInt8)) :=
  cond (decide (0 ≤ 0) && decide (0 < (↑a0_1.length : Int)))
    (cond (decide (Int.toNat 0 < a0_1.length))
      (some (((a0_1.getD (Int.toNat 0) (0, 0, [])).1, a0_0, a0_1)))
      (none))
    (none)
noncomputable def i12 : FI := ⟨ps12, .ty (.i .i64), fun (a0_0, a0_1) => g12 a0_0 a0_1⟩
theorem e12 : (fun a => i12.G a) = fnEval T Y env12 an i12.ps i12.rs true Try.f12.results.toList lv12 c12 := by kernel_rfl
theorem lo12 : loopsOf c12 = [] := by kernel_rfl
theorem ll12 : LoopsOk T Y env12 an lv12 (finO T true ps12 (.ty (.i .i64)) Try.f12.results.toList) c12 := loopsOk_of (by rw [lo12]; exact trivial)
theorem k12 : FnOk Try.prog 12 i12 :=
  fn_ok (T := T) (Y := Y) (an := an) (env := env12) (fr := true) (lenv := lv12) mixed tok.1 tok.2 (envNil) (fn := Try.f12) (c := c12) (by kernel_rfl) (by kernel_rfl) (by kernel_rfl) ll12 (fun a => congrFun e12 a)
/-! ### (*broker/seglog.Log).last -/
noncomputable def c29 : Code := Try.f29.body.getD .skip
noncomputable def env29 : Env := mkEnv []
abbrev ps29 : List PSh := [.io (.ob (.ag (.pr (.ty (.i .i64)) (.ow 3 (.st (.pr (.i .i64) (.pr (.i .i64) (.sl .u8)))))))) (.ob (.ag (.pr (.ty (.i .i64)) (.ow 3 (.st (.pr (.i .i64) (.pr (.i .i64) (.sl .u8))))))))]
abbrev D29 : Type := pairD (.ty (.st (.pr (.i .i64) (.pr (.i .i64) (.sl .u8))))) (osOf ps29)
noncomputable def lv29 : Nat → Option (LI D29) := fun _ => none
noncomputable def g29 (a0_0 : Int) (a0_1 : List (Int × Int × List UInt8)) : Option ((Int × Int × List UInt8) × Int × List (Int × Int × List UInt8)) :=
  cond (decide (0 ≤ IntKind.i64.wrap ((↑a0_1.length : Int) - 1)) && decide (IntKind.i64.wrap ((↑a0_1.length : Int) - 1) < (↑a0_1.length : Int)))
    (cond (decide ((IntKind.i64.wrap ((↑a0_1.length : Int) - 1)).toNat < a0_1.length))
      (some ((a0_1.getD (IntKind.i64.wrap ((↑a0_1.length : Int) - 1)).toNat (0, 0, []), a0_0, a0_1)))
      (none))
    (none)
noncomputable def i29 : FI := ⟨ps29, .ty (.st (.pr (.i .i64) (.pr (.i .i64) (.sl .u8)))), fun (a0_0, a0_1) => g29 a0_0 a0_1⟩
theorem e29 : (fun a => i29.G a) = fnEval T Y env29 an i29.ps i29.rs true Try.f29.results.toList lv29 c29 := by kernel_rfl
theorem lo29 : loopsOf c29 = [] := by kernel_rfl
theorem ll29 : LoopsOk T Y env29 an lv29 (finO T true ps29 (.ty (.st (.pr (.i .i64) (.pr (.i .i64) (.sl .u8))))) Try.f29.results.toList) c29 := loopsOk_of (by rw [lo29]; exact trivial)
theorem k29 : FnOk Try.prog 29 i29 :=
  fn_ok (T := T) (Y := Y) (an := an) (env := env29) (fr := true) (lenv := lv29) mixed tok.1 tok.2 (envNil) (fn := Try.f29) (c := c29) (by kernel_rfl) (by kernel_rfl) (by kernel_rfl) ll29 (fun a => congrFun e29 a)
/-! ### (*broker/seglog.Log).Next -/
noncomputable def c13 : Code := Try.f13.body.getD .skip
noncomputable def env13 : Env := mkEnv [(29, i29)]
abbrev ps13 : List PSh := [.io (.ob (.ag (.pr (.ty (.i .i64)) (.ow 3 (.st (.pr (.i .i64) (.pr (.i .i64) (.sl .u8)))))))) (.ob (.ag (.pr (.ty (.i .i64)) (.ow 3 (.st (.pr (.i .i64) (.pr (.i .i64) (.sl .u8))))))))]
abbrev D13 : Type := pairD (.ty (.i .i64)) (osOf ps13)
noncomputable def lv13 : Nat → Option (LI D13) := fun _ => none
noncomputable def g13 (a0_0 : Int) (a0_1 : List (Int × Int × List UInt8)) : Option (Int × Int × List (Int × Int × List UInt8)) :=
  Option.bind (g29 a0_0 a0_1) fun v1 =>
  some ((v1.1.2.1, v1.2))
noncomputable def i13 : FI := ⟨ps13, .ty (.i .i64), fun (a0_0, a0_1) => g13 a0_0 a0_1⟩
theorem e13 : (fun a => i13.G a) = fnEval T Y env13 an i13.ps i13.rs true Try.f13.results.toList lv13 c13 := by kernel_rfl
theorem lo13 : loopsOf c13 = [] := by kernel_rfl
theorem ll13 : LoopsOk T Y env13 an lv13 (finO T true ps13 (.ty (.i .i64)) Try.f13.results.toList) c13 := loopsOk_of (by rw [lo13]; exact trivial)
theorem k13 : FnOk Try.prog 13 i13 :=
  fn_ok (T := T) (Y := Y) (an := an) (env := env13) (fr := true) (lenv := lv13) mixed tok.1 tok.2 (envCons k29 (envNil)) (fn := Try.f13) (c := c13) (by kernel_rfl) (by kernel_rfl) (by kernel_rfl) ll13 (fun a => congrFun e13 a)
/-! ### (*broker/seglog.Log).Append -/
noncomputable def c10 : Code := Try.f10.body.getD .skip
noncomputable def env10 : Env := mkEnv [(13, i13), (28, i28), (12, i12), (29, i29), (30, i30), (27, i27), (31, i31)]
abbrev ps10 : List PSh := [.io (.ob (.ag (.pr (.ty (.i .i64)) (.ow 3 (.st (.pr (.i .i64) (.pr (.i .i64) (.sl .u8)))))))) (.ob (.ag (.pr (.ty (.i .i64)) (.ow 3 (.st (.pr (.i .i64) (.pr (.i .i64) (.sl .u8)))))))), .d (.i .i64), .d .s, .d .s]
abbrev D10 : Type := pairD (.tup (.pr (.ty (.i .i64)) (.ty (.i .i64)))) (osOf ps10)
noncomputable def lv10 : Nat → Option (LI D10) := fun _ => none
noncomputable def g10 (a0_0 : Int) (a0_1 : List (Int × Int × List UInt8)) (a1 : Int) (a2 : List UInt8) (a3 : List UInt8) : Option ((Int × Int) × Int × List (Int × Int × List UInt8)) :=
  Option.bind (g13 a0_0 a0_1) fun v1 =>
  Option.bind (g28 v1.1 a1 a2 a3) fun v2 =>
  cond (v2 != 0)
    (some (((0, v2), v1.2)))
    (Option.bind (g13 v1.2.1 v1.2.2) fun v3 =>
    Option.bind (g12 v3.2.1 v3.2.2) fun v4 =>
    cond (decide (IntKind.i64.wrap (v3.1 - v4.1) ≥ 4096))
      (some (((0, 6), v4.2)))
      (Option.bind (g29 v4.2.1 v4.2.2) fun v5 =>
      cond (decide ((↑(List.length v5.1.2.2) : Int) > 0))
        (Option.bind (g30 v1.1 a1 a2 a3) fun v6 =>
        cond (decide (IntKind.i64.wrap ((↑(List.length v5.1.2.2) : Int) + v6) > v5.2.1))
          (Option.bind (g27 v5.1.2.1) fun v7 =>
          Option.bind (g31 v7.1 v7.2.1 v7.2.2 a1 a2 a3) fun v8 =>
          cond (v8.2.2 != 0)
            (some (((0, v8.2.2), v5.2)))
            (cond (decide (IntKind.i64.wrap ((↑(List.length v5.1.2.2) : Int) + v6) > v5.2.1))
              (cond (decide (List.length v5.2.2 + 1 ≤ 2147483647))
                (some (((v8.2.1, 0), v5.2.1, v5.2.2 ++ [v8.1])))
                (none))
              (cond (decide (0 ≤ IntKind.i64.wrap ((↑(List.length v5.2.2) : Int) - 1)) && decide (IntKind.i64.wrap ((↑(List.length v5.2.2) : Int) - 1) < (↑(List.length v5.2.2) : Int)))
                (cond (decide ((IntKind.i64.wrap ((↑(List.length v5.2.2) : Int) - 1)).toNat < List.length v5.2.2))
                  (some (((v8.2.1, 0), v5.2.1, List.set v5.2.2 (IntKind.i64.wrap ((↑(List.length v5.2.2) : Int) - 1)).toNat v8.1)))
                  (none))
                (none))))
          (Option.bind (g31 v5.1.1 v5.1.2.1 v5.1.2.2 a1 a2 a3) fun v9 =>
          cond (v9.2.2 != 0)
            (some (((0, v9.2.2), v5.2)))
            (cond (decide (IntKind.i64.wrap ((↑(List.length v5.1.2.2) : Int) + v6) > v5.2.1))
              (cond (decide (List.length v5.2.2 + 1 ≤ 2147483647))
                (some (((v9.2.1, 0), v5.2.1, v5.2.2 ++ [v9.1])))
                (none))
              (cond (decide (0 ≤ IntKind.i64.wrap ((↑(List.length v5.2.2) : Int) - 1)) && decide (IntKind.i64.wrap ((↑(List.length v5.2.2) : Int) - 1) < (↑(List.length v5.2.2) : Int)))
                (cond (decide ((IntKind.i64.wrap ((↑(List.length v5.2.2) : Int) - 1)).toNat < List.length v5.2.2))
                  (some (((v9.2.1, 0), v5.2.1, List.set v5.2.2 (IntKind.i64.wrap ((↑(List.length v5.2.2) : Int) - 1)).toNat v9.1)))
                  (none))
                (none)))))
        (Option.bind (g31 v5.1.1 v5.1.2.1 v5.1.2.2 a1 a2 a3) fun v10 =>
        cond (v10.2.2 != 0)
          (some (((0, v10.2.2), v5.2)))
          (cond (decide (0 ≤ IntKind.i64.wrap ((↑(List.length v5.2.2) : Int) - 1)) && decide (IntKind.i64.wrap ((↑(List.length v5.2.2) : Int) - 1) < (↑(List.length v5.2.2) : Int)))
            (cond (decide ((IntKind.i64.wrap ((↑(List.length v5.2.2) : Int) - 1)).toNat < List.length v5.2.2))
              (some (((v10.2.1, 0), v5.2.1, List.set v5.2.2 (IntKind.i64.wrap ((↑(List.length v5.2.2) : Int) - 1)).toNat v10.1)))
              (none))
            (none)))))
noncomputable def i10 : FI := ⟨ps10, .tup (.pr (.ty (.i .i64)) (.ty (.i .i64))), fun ((a0_0, a0_1), a1, a2, a3) => g10 a0_0 a0_1 a1 a2 a3⟩
theorem e10 : (fun a => i10.G a) = fnEval T Y env10 an i10.ps i10.rs true Try.f10.results.toList lv10 c10 := by kernel_rfl
theorem lo10 : loopsOf c10 = [] := by kernel_rfl
theorem ll10 : LoopsOk T Y env10 an lv10 (finO T true ps10 (.tup (.pr (.ty (.i .i64)) (.ty (.i .i64)))) Try.f10.results.toList) c10 := loopsOk_of (by rw [lo10]; exact trivial)
theorem k10 : FnOk Try.prog 10 i10 :=
  fn_ok (T := T) (Y := Y) (an := an) (env := env10) (fr := true) (lenv := lv10) mixed tok.1 tok.2 (envCons k13 (envCons k28 (envCons k12 (envCons k29 (envCons k30 (envCons k27 (envCons k31 (envNil)))))))) (fn := Try.f10) (c := c10) (by kernel_rfl) (by kernel_rfl) (by kernel_rfl) ll10 (fun a => congrFun e10 a)
/-! ### (*broker/seglog.Log).Drop -/
noncomputable def c11 : Code := Try.f11.body.getD .skip
noncomputable def env11 : Env := mkEnv [(13, i13), (27, i27)]
abbrev ps11 : List PSh := [.io (.ob (.ag (.pr (.ty (.i .i64)) (.ow 3 (.st (.pr (.i .i64) (.pr (.i .i64) (.sl .u8)))))))) (.ob (.ag (.pr (.ty (.i .i64)) (.ow 3 (.st (.pr (.i .i64) (.pr (.i .i64) (.sl .u8)))))))), .d (.i .i64)]
abbrev D11 : Type := pairD (.ty (.i .i64)) (osOf ps11)
def ns11_0 : NS := { slots := [(0, .pt 1000000 []), (1, .ty (.i .i64)), (5, .ty (.i .i64)), (6, .ty (.i .i64))], roots := [(4104, .ar 3 (.st (.pr (.i .i64) (.pr (.i .i64) (.sl .u8))))), (1000000, .ag (.pr (.ty (.i .i64)) (.hw 4104)))], ad := [{ t := 0, path := [(1, 1)], g := 4104, d := 3, τ := (.st (.pr (.i .i64) (.pr (.i .i64) (.sl .u8))) : Ty) }] }
def ex11_0 : List (Nat × NS) := [(0, { slots := [(0, .pt 1000000 []), (5, .ty (.i .i64)), (6, .ty (.i .i64))], roots := [(1000000, .ag (.pr (.ty (.i .i64)) (.hw 4104))), (4104, .ar 3 (.st (.pr (.i .i64) (.pr (.i .i64) (.sl .u8)))))] })]
noncomputable def st11_0 (ih : ((Int × Int × Int) × ((List (Int × Int × List UInt8)) × Int × Unit)) → Option (((Int × Int) × ((Int × Unit) × List (Int × Int × List UInt8))) ⊕ ((Int × Int × List (Int × Int × List UInt8))))) : ((Int × Int × Int) × ((List (Int × Int × List UInt8)) × Int × Unit)) → Option (((Int × Int) × ((Int × Unit) × List (Int × Int × List UInt8))) ⊕ ((Int × Int × List (Int × Int × List UInt8)))) := fun ((t1, t5, t6), (r4104, (r1000000_0, ()))) =>
  cond (decide ((↑r4104.length : Int) > 0))
    (cond (decide (0 ≤ 0) && decide (0 < (↑r4104.length : Int)))
      (cond (decide (Int.toNat 0 < r4104.length))
        (cond (decide ((↑(List.length (r4104.getD (Int.toNat 0) (0, 0, [])).2.2) : Int) > 0))
          (cond (decide (0 ≤ 0) && decide (0 < (↑r4104.length : Int)))
            (cond (decide (Int.toNat 0 < r4104.length))
              (cond (decide ((r4104.getD (Int.toNat 0) (0, 0, [])).2.1 ≤ t1))
                (cond (decide (0 ≤ 0) && decide (0 < (↑r4104.length : Int)))
                  (cond (decide (Int.toNat 0 < r4104.length))
                    (cond (decide (0 ≤ 0) && decide (0 < (↑r4104.length : Int)))
                      (cond (decide (Int.toNat 0 < r4104.length))
                        (cond (decide (0 ≤ 1) && decide (1 ≤ (↑r4104.length : Int)) && true)
                          (ih ((t1, t5, IntKind.i64.wrap (t6 + IntKind.i64.wrap ((r4104.getD (Int.toNat 0) (0, 0, [])).2.1 - (r4104.getD (Int.toNat 0) (0, 0, [])).1))), List.take (r4104.length - Int.toNat 1) (List.drop (Int.toNat 1) r4104), r1000000_0, ()))
                          (none))
                        (none))
                      (none))
                    (none))
                  (none))
                (some (Sum.inl ((t5, t6), (r1000000_0, ()), r4104))))
              (none))
            (none))
          (some (Sum.inl ((t5, t6), (r1000000_0, ()), r4104))))
        (none))
      (none))
    (some (Sum.inl ((t5, t6), (r1000000_0, ()), r4104)))
noncomputable def h11_0 : ((Int × Int × Int) × ((List (Int × Int × List UInt8)) × Int × Unit)) → Option (((Int × Int) × ((Int × Unit) × List (Int × Int × List UInt8))) ⊕ ((Int × Int × List (Int × Int × List UInt8)))) := loopN st11_0 fuel
noncomputable def l11_0 : LI D11 := ⟨ns11_0, ex11_0, h11_0⟩
noncomputable def lv11 : Nat → Option (LI D11) := fun q => if q = 2 then some l11_0 else (fun _ => none) q
noncomputable def g11 (a0_0 : Int) (a0_1 : List (Int × Int × List UInt8)) (a1 : Int) : Option (Int × Int × List (Int × Int × List UInt8)) :=
  Option.bind (g13 a0_0 a0_1) fun v1 =>
  Option.bind (h11_0 ((a1, v1.1, 0), v1.2.2, v1.2.1, ())) fun v2 =>
  match v2 with
  | .inl x3 =>
    cond ((↑(List.length x3.2.2) : Int) == 0)
      (Option.bind (g27 x3.1.1) fun v4 =>
      some ((x3.1.2, x3.2.1.1, [v4])))
      (some ((x3.1.2, x3.2.1.1, x3.2.2)))
  | .inr x3 =>
    some (x3)
noncomputable def i11 : FI := ⟨ps11, .ty (.i .i64), fun ((a0_0, a0_1), a1) => g11 a0_0 a0_1 a1⟩
theorem s11_0 : st11_0 = stepEval T Y env11 an lv11 (finO T true ps11 (.ty (.i .i64)) Try.f11.results.toList) (loopAt c11 0) ns11_0 ex11_0 := by kernel_rfl
theorem e11 : (fun a => i11.G a) = fnEval T Y env11 an i11.ps i11.rs true Try.f11.results.toList lv11 c11 := by kernel_rfl
theorem lo11 : loopsOf c11 = [loopAt c11 0] := by kernel_rfl
theorem ll11 : LoopsOk T Y env11 an lv11 (finO T true ps11 (.ty (.i .i64)) Try.f11.results.toList) c11 := loopsOk_of (by rw [lo11]; exact ⟨loop1 (li := l11_0) (by kernel_rfl) (by kernel_rfl) s11_0, trivial⟩)
theorem k11 : FnOk Try.prog 11 i11 :=
  fn_ok (T := T) (Y := Y) (an := an) (env := env11) (fr := true) (lenv := lv11) mixed tok.1 tok.2 (envCons k13 (envCons k27 (envNil))) (fn := Try.f11) (c := c11) (by kernel_rfl) (by kernel_rfl) (by kernel_rfl) ll11 (fun a => congrFun e11 a)
/-! ### (*broker/seglog.Log).Read -/
noncomputable def c14 : Code := Try.f14.body.getD .skip
noncomputable def env14 : Env := mkEnv [(12, i12), (13, i13), (33, i33), (32, i32)]
abbrev ps14 : List PSh := [.io (.ob (.ag (.pr (.ty (.i .i64)) (.ow 3 (.st (.pr (.i .i64) (.pr (.i .i64) (.sl .u8)))))))) (.ob (.ag (.pr (.ty (.i .i64)) (.ow 3 (.st (.pr (.i .i64) (.pr (.i .i64) (.sl .u8)))))))), .d (.i .i64), .d (.i .i64)]
abbrev D14 : Type := pairD (.tup (.pr (.ty (.sl (.st (.pr (.i .i64) (.pr (.i .i64) (.pr .s .s)))))) (.ty (.i .i64)))) (osOf ps14)
def ns14_1 : NS := { slots := [(0, .pt 1000000 []), (8, .hw 54), (26, .hw 4116), (1, .ty (.i .i64)), (2, .ty (.i .i64)), (27, .ty (.i .i64)), (28, .ty (.i .i64)), (41, .ty (.sl (.st (.pr (.i .i64) (.pr (.i .i64) (.pr .s .s)))))), (42, .ty (.i .i64)), (43, .ty (.i .i64))], roots := [(4116, .ar 3 (.st (.pr (.i .i64) (.pr (.i .i64) (.sl .u8))))), (54, .ar 4 (.st (.pr (.i .i64) (.pr (.i .i64) (.pr .s .s))))), (1000000, .ag (.pr (.ty (.i .i64)) (.hw 4116)))] }
def ex14_1 : List (Nat × NS) := [(0, { slots := [(0, .pt 1000000 []), (8, .hw 54)], roots := [(54, .ar 4 (.st (.pr (.i .i64) (.pr (.i .i64) (.pr .s .s))))), (1000000, .ag (.pr (.ty (.i .i64)) (.hw 4116))), (4116, .ar 3 (.st (.pr (.i .i64) (.pr (.i .i64) (.sl .u8)))))] }), (2, { slots := [(0, .pt 1000000 []), (8, .hw 54), (26, .hw 4116), (1, .ty (.i .i64)), (2, .ty (.i .i64)), (27, .ty (.i .i64)), (28, .ty (.i .i64))], roots := [(4116, .ar 3 (.st (.pr (.i .i64) (.pr (.i .i64) (.sl .u8))))), (54, .ar 4 (.st (.pr (.i .i64) (.pr (.i .i64) (.pr .s .s))))), (1000000, .ag (.pr (.ty (.i .i64)) (.hw 4116)))] })]
noncomputable def st14_1 (ih : ((Int × Int × Int × Int × (List (Int × Int × List UInt8 × List UInt8)) × Int × Int) × ((List (Int × Int × List UInt8)) × (List (Int × Int × List UInt8 × List UInt8)) × Int × Unit)) → Option (((Unit) × ((List (Int × Int × List UInt8 × List UInt8)) × (Int × Unit) × List (Int × Int × List UInt8))) ⊕ (((Int × Int × Int × Int) × ((List (Int × Int × List UInt8)) × (List (Int × Int × List UInt8 × List UInt8)) × Int × Unit)) ⊕ ((((List (Int × Int × List UInt8 × List UInt8)) × Int) × Int × List (Int × Int × List UInt8)))))) : ((Int × Int × Int × Int × (List (Int × Int × List UInt8 × List UInt8)) × Int × Int) × ((List (Int × Int × List UInt8)) × (List (Int × Int × List UInt8 × List UInt8)) × Int × Unit)) → Option (((Unit) × ((List (Int × Int × List UInt8 × List UInt8)) × (Int × Unit) × List (Int × Int × List UInt8))) ⊕ (((Int × Int × Int × Int) × ((List (Int × Int × List UInt8)) × (List (Int × Int × List UInt8 × List UInt8)) × Int × Unit)) ⊕ ((((List (Int × Int × List UInt8 × List UInt8)) × Int) × Int × List (Int × Int × List UInt8))))) := fun ((t1, t2, t27, t28, t41, t42, t43), (r4116, r54, (r1000000_0, ()))) =>
  cond (decide (t43 < t42))
    (cond (decide (0 ≤ t43) && decide (t43 < (↑t41.length : Int)))
      (cond (decide ((↑r54.length : Int) ≥ t2))
        (some (Sum.inl ((), r54, (r1000000_0, ()), r4116)))
        (cond (decide (r54.length + 1 ≤ 2147483647))
          (ih ((t1, t2, t27, t28, t41, t42, IntKind.i64.wrap (t43 + 1)), r4116, r54 ++ [t41.getD t43.toNat (0, 0, [], [])], r1000000_0, ()))
          (none)))
      (none))
    (some (Sum.inr (Sum.inl ((t1, t2, t27, t28), r4116, r54, r1000000_0, ()))))
noncomputable def h14_1 : ((Int × Int × Int × Int × (List (Int × Int × List UInt8 × List UInt8)) × Int × Int) × ((List (Int × Int × List UInt8)) × (List (Int × Int × List UInt8 × List UInt8)) × Int × Unit)) → Option (((Unit) × ((List (Int × Int × List UInt8 × List UInt8)) × (Int × Unit) × List (Int × Int × List UInt8))) ⊕ (((Int × Int × Int × Int) × ((List (Int × Int × List UInt8)) × (List (Int × Int × List UInt8 × List UInt8)) × Int × Unit)) ⊕ ((((List (Int × Int × List UInt8 × List UInt8)) × Int) × Int × List (Int × Int × List UInt8))))) := loopN st14_1 fuel
noncomputable def l14_1 : LI D14 := ⟨ns14_1, ex14_1, h14_1⟩
def ns14_0 : NS := { slots := [(0, .pt 1000000 []), (8, .hw 54), (26, .hw 4116), (1, .ty (.i .i64)), (2, .ty (.i .i64)), (27, .ty (.i .i64)), (28, .ty (.i .i64))], roots := [(54, .ar 4 (.st (.pr (.i .i64) (.pr (.i .i64) (.pr .s .s))))), (4116, .ar 3 (.st (.pr (.i .i64) (.pr (.i .i64) (.sl .u8))))), (1000000, .ag (.pr (.ty (.i .i64)) (.hw 4116)))], ad := [{ t := 8, path := [], g := 54, d := 4, τ := (.st (.pr (.i .i64) (.pr (.i .i64) (.pr .s .s))) : Ty) }] }
def ex14_0 : List (Nat × NS) := [(0, { slots := [(0, .pt 1000000 []), (8, .hw 54)], roots := [(54, .ar 4 (.st (.pr (.i .i64) (.pr (.i .i64) (.pr .s .s))))), (1000000, .ag (.pr (.ty (.i .i64)) (.hw 4116))), (4116, .ar 3 (.st (.pr (.i .i64) (.pr (.i .i64) (.sl .u8)))))] })]
noncomputable def st14_0 (ih : ((Int × Int × Int × Int) × ((List (Int × Int × List UInt8 × List UInt8)) × (List (Int × Int × List UInt8)) × Int × Unit)) → Option (((Unit) × ((List (Int × Int × List UInt8 × List UInt8)) × (Int × Unit) × List (Int × Int × List UInt8))) ⊕ ((((List (Int × Int × List UInt8 × List UInt8)) × Int) × Int × List (Int × Int × List UInt8))))) : ((Int × Int × Int × Int) × ((List (Int × Int × List UInt8 × List UInt8)) × (List (Int × Int × List UInt8)) × Int × Unit)) → Option (((Unit) × ((List (Int × Int × List UInt8 × List UInt8)) × (Int × Unit) × List (Int × Int × List UInt8))) ⊕ ((((List (Int × Int × List UInt8 × List UInt8)) × Int) × Int × List (Int × Int × List UInt8)))) := fun ((t1, t2, t27, t28), (r54, r4116, (r1000000_0, ()))) =>
  cond (decide (t28 < t27))
    (cond (decide (0 ≤ t28) && decide (t28 < (↑r4116.length : Int)))
      (cond (decide (t28.toNat < r4116.length))
        (cond (decide ((r4116.getD t28.toNat (0, 0, [])).2.1 ≤ t1))
          (ih ((t1, t2, t27, IntKind.i64.wrap (t28 + 1)), r54, r4116, r1000000_0, ()))
          (Option.bind (g33 (r4116.getD t28.toNat (0, 0, [])).1 (r4116.getD t28.toNat (0, 0, [])).2.1 (r4116.getD t28.toNat (0, 0, [])).2.2 16) fun v1 =>
          Option.bind (g32 (r4116.getD t28.toNat (0, 0, [])).1 (r4116.getD t28.toNat (0, 0, [])).2.1 (r4116.getD t28.toNat (0, 0, [])).2.2 v1 t1 t2) fun v2 =>
          Option.bind (h14_1 ((t1, t2, t27, t28, v2, (↑(List.length v2) : Int), 0), r4116, r54, r1000000_0, ())) fun v3 =>
          match v3 with
          | .inl x4 =>
            some (Sum.inl ((), x4.2.1, (x4.2.2.1.1, ()), x4.2.2.2))
          | .inr x4 =>
            match x4 with
            | .inl x5 =>
              ih ((x5.1.1, x5.1.2.1, x5.1.2.2.1, IntKind.i64.wrap (x5.1.2.2.2 + 1)), x5.2.2.1, x5.2.1, x5.2.2.2.1, ())
            | .inr x5 =>
              some (Sum.inr x5)))
        (none))
      (none))
    (some (Sum.inl ((), r54, (r1000000_0, ()), r4116)))
noncomputable def h14_0 : ((Int × Int × Int × Int) × ((List (Int × Int × List UInt8 × List UInt8)) × (List (Int × Int × List UInt8)) × Int × Unit)) → Option (((Unit) × ((List (Int × Int × List UInt8 × List UInt8)) × (Int × Unit) × List (Int × Int × List UInt8))) ⊕ ((((List (Int × Int × List UInt8 × List UInt8)) × Int) × Int × List (Int × Int × List UInt8)))) := loopN st14_0 fuel
noncomputable def l14_0 : LI D14 := ⟨ns14_0, ex14_0, h14_0⟩
noncomputable def lv14 : Nat → Option (LI D14) := fun q => if q = 5 then some l14_0 else (fun q => if q = 9 then some l14_1 else (fun _ => none) q) q
noncomputable def g14 (a0_0 : Int) (a0_1 : List (Int × Int × List UInt8)) (a1 : Int) (a2 : Int) : Option (((List (Int × Int × List UInt8 × List UInt8)) × Int) × Int × List (Int × Int × List UInt8)) :=
  Option.bind (g12 a0_0 a0_1) fun v1 =>
  cond (decide (a1 < v1.1))
    (some ((([], 1), v1.2)))
    (Option.bind (g13 v1.2.1 v1.2.2) fun v2 =>
    cond (decide (a1 > v2.1))
      (some ((([], 1), v2.2)))
      (Option.bind (h14_0 ((a1, a2, (↑(List.length v2.2.2) : Int), 0), [], v2.2.2, v2.2.1, ())) fun v3 =>
      match v3 with
      | .inl x4 =>
        some (((x4.2.1, 0), x4.2.2.1.1, x4.2.2.2))
      | .inr x4 =>
        some (x4)))
noncomputable def i14 : FI := ⟨ps14, .tup (.pr (.ty (.sl (.st (.pr (.i .i64) (.pr (.i .i64) (.pr .s .s)))))) (.ty (.i .i64))), fun ((a0_0, a0_1), a1, a2) => g14 a0_0 a0_1 a1 a2⟩
theorem s14_1 : st14_1 = stepEval T Y env14 an lv14 (finO T true ps14 (.tup (.pr (.ty (.sl (.st (.pr (.i .i64) (.pr (.i .i64) (.pr .s .s)))))) (.ty (.i .i64)))) Try.f14.results.toList) (loopAt c14 1) ns14_1 ex14_1 := by kernel_rfl
theorem s14_0 : st14_0 = stepEval T Y env14 an lv14 (finO T true ps14 (.tup (.pr (.ty (.sl (.st (.pr (.i .i64) (.pr (.i .i64) (.pr .s .s)))))) (.ty (.i .i64)))) Try.f14.results.toList) (loopAt c14 0) ns14_0 ex14_0 := by kernel_rfl
theorem e14 : (fun a => i14.G a) = fnEval T Y env14 an i14.ps i14.rs true Try.f14.results.toList lv14 c14 := by kernel_rfl
theorem lo14 : loopsOf c14 = [loopAt c14 0, loopAt c14 1] := by kernel_rfl
theorem ll14 : LoopsOk T Y env14 an lv14 (finO T true ps14 (.tup (.pr (.ty (.sl (.st (.pr (.i .i64) (.pr (.i .i64) (.pr .s .s)))))) (.ty (.i .i64)))) Try.f14.results.toList) c14 := loopsOk_of (by rw [lo14]; exact ⟨loop1 (li := l14_0) (by kernel_rfl) (by kernel_rfl) s14_0, ⟨loop1 (li := l14_1) (by kernel_rfl) (by kernel_rfl) s14_1, trivial⟩⟩)
theorem k14 : FnOk Try.prog 14 i14 :=
  fn_ok (T := T) (Y := Y) (an := an) (env := env14) (fr := true) (lenv := lv14) mixed tok.1 tok.2 (envCons k12 (envCons k13 (envCons k33 (envCons k32 (envNil))))) (fn := Try.f14) (c := c14) (by kernel_rfl) (by kernel_rfl) (by kernel_rfl) ll14 (fun a => congrFun e14 a)
/-! ### (*broker/seglog.Log).Segments -/
noncomputable def c16 : Code := Try.f16.body.getD .skip
noncomputable def env16 : Env := mkEnv [(34, i34)]
abbrev ps16 : List PSh := [.io (.ob (.ag (.pr (.ty (.i .i64)) (.ow 3 (.st (.pr (.i .i64) (.pr (.i .i64) (.sl .u8)))))))) (.ob (.ag (.pr (.ty (.i .i64)) (.ow 3 (.st (.pr (.i .i64) (.pr (.i .i64) (.sl .u8))))))))]
abbrev D16 : Type := pairD (.ty (.sl (.st (.pr (.i .i64) (.pr (.i .i64) (.sl .u8)))))) (osOf ps16)
def ns16_0 : NS := { slots := [(0, .pt 1000000 []), (3, .hw 19), (9, .hw 1000001), (10, .ty (.i .i64)), (11, .ty (.i .i64))], roots := [(19, .ar 3 (.st (.pr (.i .i64) (.pr (.i .i64) (.sl .u8))))), (1000001, .ar 3 (.st (.pr (.i .i64) (.pr (.i .i64) (.sl .u8))))), (1000000, .ag (.pr (.ty (.i .i64)) (.hw 1000001)))], ad := [{ t := 3, path := [], g := 19, d := 3, τ := (.st (.pr (.i .i64) (.pr (.i .i64) (.sl .u8))) : Ty) }] }
def ex16_0 : List (Nat × NS) := [(0, { slots := [(0, .pt 1000000 []), (3, .hw 19)], roots := [(19, .ar 3 (.st (.pr (.i .i64) (.pr (.i .i64) (.sl .u8))))), (1000000, .ag (.pr (.ty (.i .i64)) (.hw 1000001))), (1000001, .ar 3 (.st (.pr (.i .i64) (.pr (.i .i64) (.sl .u8)))))] })]
noncomputable def st16_0 (ih : ((Int × Int) × ((List (Int × Int × List UInt8)) × (List (Int × Int × List UInt8)) × Int × Unit)) → Option (((Unit) × ((List (Int × Int × List UInt8)) × (Int × Unit) × List (Int × Int × List UInt8))) ⊕ (((List (Int × Int × List UInt8)) × Int × List (Int × Int × List UInt8))))) : ((Int × Int) × ((List (Int × Int × List UInt8)) × (List (Int × Int × List UInt8)) × Int × Unit)) → Option (((Unit) × ((List (Int × Int × List UInt8)) × (Int × Unit) × List (Int × Int × List UInt8))) ⊕ (((List (Int × Int × List UInt8)) × Int × List (Int × Int × List UInt8)))) := fun ((t10, t11), (r19, r1000001, (r1000000_0, ()))) =>
  cond (decide (t11 < t10))
    (cond (decide (0 ≤ t11) && decide (t11 < (↑r1000001.length : Int)))
      (cond (decide (t11.toNat < r1000001.length))
        (Option.bind (g34 (r1000001.getD t11.toNat (0, 0, [])).1 (r1000001.getD t11.toNat (0, 0, [])).2.1 (r1000001.getD t11.toNat (0, 0, [])).2.2) fun v1 =>
        cond (decide (r19.length + 1 ≤ 2147483647))
          (ih ((t10, IntKind.i64.wrap (t11 + 1)), r19 ++ [v1], r1000001, r1000000_0, ()))
          (none))
        (none))
      (none))
    (some (Sum.inl ((), r19, (r1000000_0, ()), r1000001)))
noncomputable def h16_0 : ((Int × Int) × ((List (Int × Int × List UInt8)) × (List (Int × Int × List UInt8)) × Int × Unit)) → Option (((Unit) × ((List (Int × Int × List UInt8)) × (Int × Unit) × List (Int × Int × List UInt8))) ⊕ (((List (Int × Int × List UInt8)) × Int × List (Int × Int × List UInt8)))) := loopN st16_0 fuel
noncomputable def l16_0 : LI D16 := ⟨ns16_0, ex16_0, h16_0⟩
noncomputable def lv16 : Nat → Option (LI D16) := fun q => if q = 3 then some l16_0 else (fun _ => none) q
noncomputable def g16 (a0_0 : Int) (a0_1 : List (Int × Int × List UInt8)) : Option ((List (Int × Int × List UInt8)) × Int × List (Int × Int × List UInt8)) :=
  Option.bind (h16_0 (((↑a0_1.length : Int), 0), [], a0_1, a0_0, ())) fun v1 =>
  match v1 with
  | .inl x2 =>
    some ((x2.2.1, x2.2.2.1.1, x2.2.2.2))
  | .inr x2 =>
    some (x2)
noncomputable def i16 : FI := ⟨ps16, .ty (.sl (.st (.pr (.i .i64) (.pr (.i .i64) (.sl .u8))))), fun (a0_0, a0_1) => g16 a0_0 a0_1⟩
theorem s16_0 : st16_0 = stepEval T Y env16 an lv16 (finO T true ps16 (.ty (.sl (.st (.pr (.i .i64) (.pr (.i .i64) (.sl .u8)))))) Try.f16.results.toList) (loopAt c16 0) ns16_0 ex16_0 := by kernel_rfl
theorem e16 : (fun a => i16.G a) = fnEval T Y env16 an i16.ps i16.rs true Try.f16.results.toList lv16 c16 := by kernel_rfl
theorem lo16 : loopsOf c16 = [loopAt c16 0] := by kernel_rfl
theorem ll16 : LoopsOk T Y env16 an lv16 (finO T true ps16 (.ty (.sl (.st (.pr (.i .i64) (.pr (.i .i64) (.sl .u8)))))) Try.f16.results.toList) c16 := loopsOk_of (by rw [lo16]; exact ⟨loop1 (li := l16_0) (by kernel_rfl) (by kernel_rfl) s16_0, trivial⟩)
theorem k16 : FnOk Try.prog 16 i16 :=
  fn_ok (T := T) (Y := Y) (an := an) (env := env16) (fr := true) (lenv := lv16) mixed tok.1 tok.2 (envCons k34 (envNil)) (fn := Try.f16) (c := c16) (by kernel_rfl) (by kernel_rfl) (by kernel_rfl) ll16 (fun a => congrFun e16 a)
/-! ### (*broker/seglog.Log).Cut -/
noncomputable def c26 : Code := Try.f26.body.getD .skip
noncomputable def env26 : Env := mkEnv [(12, i12), (13, i13), (27, i27), (46, i46)]
abbrev ps26 : List PSh := [.io (.ob (.ag (.pr (.ty (.i .i64)) (.ow 3 (.st (.pr (.i .i64) (.pr (.i .i64) (.sl .u8)))))))) (.ob (.ag (.pr (.ty (.i .i64)) (.ow 3 (.st (.pr (.i .i64) (.pr (.i .i64) (.sl .u8)))))))), .d (.i .i64)]
abbrev D26 : Type := pairD (.ty (.i .i64)) (osOf ps26)
def ns26_0 : NS := { slots := [(0, .pt 1000000 []), (5, .hw 38), (25, .hw 4116), (1, .ty (.i .i64)), (26, .ty (.i .i64)), (27, .ty (.i .i64))], roots := [(38, .ar 3 (.st (.pr (.i .i64) (.pr (.i .i64) (.sl .u8))))), (4116, .ar 3 (.st (.pr (.i .i64) (.pr (.i .i64) (.sl .u8))))), (1000000, .ag (.pr (.ty (.i .i64)) (.hw 4116)))], ad := [{ t := 5, path := [], g := 38, d := 3, τ := (.st (.pr (.i .i64) (.pr (.i .i64) (.sl .u8))) : Ty) }] }
def ex26_0 : List (Nat × NS) := [(0, { slots := [(0, .pt 1000000 []), (5, .hw 38), (1, .ty (.i .i64))], roots := [(38, .ar 3 (.st (.pr (.i .i64) (.pr (.i .i64) (.sl .u8))))), (1000000, .ag (.pr (.ty (.i .i64)) (.hw 4116))), (4116, .ar 3 (.st (.pr (.i .i64) (.pr (.i .i64) (.sl .u8)))))] })]
noncomputable def st26_0 (ih : ((Int × Int × Int) × ((List (Int × Int × List UInt8)) × (List (Int × Int × List UInt8)) × Int × Unit)) → Option (((Int) × ((List (Int × Int × List UInt8)) × (Int × Unit) × List (Int × Int × List UInt8))) ⊕ ((Int × Int × List (Int × Int × List UInt8))))) : ((Int × Int × Int) × ((List (Int × Int × List UInt8)) × (List (Int × Int × List UInt8)) × Int × Unit)) → Option (((Int) × ((List (Int × Int × List UInt8)) × (Int × Unit) × List (Int × Int × List UInt8))) ⊕ ((Int × Int × List (Int × Int × List UInt8)))) := fun ((t1, t26, t27), (r38, r4116, (r1000000_0, ()))) =>
  cond (decide (t27 < t26))
    (cond (decide (0 ≤ t27) && decide (t27 < (↑r4116.length : Int)))
      (cond (decide (t27.toNat < r4116.length))
        (cond (decide ((r4116.getD t27.toNat (0, 0, [])).1 < t1))
          (cond (decide (r38.length + 1 ≤ 2147483647))
            (ih ((t1, t26, IntKind.i64.wrap (t27 + 1)), r38 ++ [r4116.getD t27.toNat (0, 0, [])], r4116, r1000000_0, ()))
            (none))
          (ih ((t1, t26, IntKind.i64.wrap (t27 + 1)), r38, r4116, r1000000_0, ())))
        (none))
      (none))
    (some (Sum.inl (t1, r38, (r1000000_0, ()), r4116)))
noncomputable def h26_0 : ((Int × Int × Int) × ((List (Int × Int × List UInt8)) × (List (Int × Int × List UInt8)) × Int × Unit)) → Option (((Int) × ((List (Int × Int × List UInt8)) × (Int × Unit) × List (Int × Int × List UInt8))) ⊕ ((Int × Int × List (Int × Int × List UInt8)))) := loopN st26_0 fuel
noncomputable def l26_0 : LI D26 := ⟨ns26_0, ex26_0, h26_0⟩
noncomputable def lv26 : Nat → Option (LI D26) := fun q => if q = 7 then some l26_0 else (fun _ => none) q
noncomputable def g26 (a0_0 : Int) (a0_1 : List (Int × Int × List UInt8)) (a1 : Int) : Option (Int × Int × List (Int × Int × List UInt8)) :=
  Option.bind (g12 a0_0 a0_1) fun v1 =>
  cond (decide (a1 < v1.1))
    (some ((1, v1.2)))
    (Option.bind (g13 v1.2.1 v1.2.2) fun v2 =>
    cond (decide (a1 > v2.1))
      (some ((1, v2.2)))
      (Option.bind (g13 v2.2.1 v2.2.2) fun v3 =>
      cond (a1 == v3.1)
        (some ((0, v3.2)))
        (Option.bind (h26_0 ((a1, (↑(List.length v3.2.2) : Int), 0), [], v3.2.2, v3.2.1, ())) fun v4 =>
        match v4 with
        | .inl x5 =>
          cond ((↑(List.length x5.2.1) : Int) == 0)
            (Option.bind (g27 x5.1) fun v6 =>
            some ((0, x5.2.2.1.1, [v6])))
            (cond (decide (0 ≤ IntKind.i64.wrap ((↑(List.length x5.2.1) : Int) - 1)) && decide (IntKind.i64.wrap ((↑(List.length x5.2.1) : Int) - 1) < (↑(List.length x5.2.1) : Int)))
              (cond (decide ((IntKind.i64.wrap ((↑(List.length x5.2.1) : Int) - 1)).toNat < List.length x5.2.1))
                (Option.bind (g46 (List.getD x5.2.1 (IntKind.i64.wrap ((↑(List.length x5.2.1) : Int) - 1)).toNat (0, 0, [])).1 (List.getD x5.2.1 (IntKind.i64.wrap ((↑(List.length x5.2.1) : Int) - 1)).toNat (0, 0, [])).2.1 (List.getD x5.2.1 (IntKind.i64.wrap ((↑(List.length x5.2.1) : Int) - 1)).toNat (0, 0, [])).2.2 x5.1) fun v7 =>
                cond (decide (0 ≤ IntKind.i64.wrap ((↑(List.length x5.2.1) : Int) - 1)) && decide (IntKind.i64.wrap ((↑(List.length x5.2.1) : Int) - 1) < (↑(List.length x5.2.1) : Int)))
                  (cond (decide ((IntKind.i64.wrap ((↑(List.length x5.2.1) : Int) - 1)).toNat < List.length x5.2.1))
                    (some ((0, x5.2.2.1.1, List.set x5.2.1 (IntKind.i64.wrap ((↑(List.length x5.2.1) : Int) - 1)).toNat v7)))
                    (none))
                  (none))
                (none))
              (none))
        | .inr x5 =>
          some (x5))))
noncomputable def i26 : FI := ⟨ps26, .ty (.i .i64), fun ((a0_0, a0_1), a1) => g26 a0_0 a0_1 a1⟩
theorem s26_0 : st26_0 = stepEval T Y env26 an lv26 (finO T true ps26 (.ty (.i .i64)) Try.f26.results.toList) (loopAt c26 0) ns26_0 ex26_0 := by kernel_rfl
theorem e26 : (fun a => i26.G a) = fnEval T Y env26 an i26.ps i26.rs true Try.f26.results.toList lv26 c26 := by kernel_rfl
theorem lo26 : loopsOf c26 = [loopAt c26 0] := by kernel_rfl
theorem ll26 : LoopsOk T Y env26 an lv26 (finO T true ps26 (.ty (.i .i64)) Try.f26.results.toList) c26 := loopsOk_of (by rw [lo26]; exact ⟨loop1 (li := l26_0) (by kernel_rfl) (by kernel_rfl) s26_0, trivial⟩)
theorem k26 : FnOk Try.prog 26 i26 :=
  fn_ok (T := T) (Y := Y) (an := an) (env := env26) (fr := true) (lenv := lv26) mixed tok.1 tok.2 (envCons k12 (envCons k13 (envCons k27 (envCons k46 (envNil))))) (fn := Try.f26) (c := c26) (by kernel_rfl) (by kernel_rfl) (by kernel_rfl) ll26 (fun a => congrFun e26 a)
/-! ### broker/seglog.Open -/
noncomputable def c23 : Code := Try.f23.body.getD .skip
noncomputable def env23 : Env := mkEnv [(9, i9), (44, i44), (34, i34)]
abbrev ps23 : List PSh := [.d (.i .i64), .d (.sl (.st (.pr (.i .i64) (.pr (.i .i64) (.sl .u8)))))]
abbrev D23 : Type := pairD (.tup (.pr (.opt (.ag (.pr (.ty (.i .i64)) (.ow 3 (.st (.pr (.i .i64) (.pr (.i .i64) (.sl .u8)))))))) (.ty (.i .i64)))) (osOf ps23)
def ns23_0 : NS := { slots := [(6, .pt 4110 []), (1, .ty (.sl (.st (.pr (.i .i64) (.pr (.i .i64) (.sl .u8)))))), (8, .ty (.i .i64)), (29, .ty (.sl (.st (.pr (.i .i64) (.pr (.i .i64) (.sl .u8)))))), (30, .ty (.i .i64)), (31, .ty (.i .i64))], roots := [(79, .ar 3 (.st (.pr (.i .i64) (.pr (.i .i64) (.sl .u8))))), (4110, .ag (.pr (.ty (.i .i64)) (.hw 79)))], ad := [{ t := 6, path := [(1, 1)], g := 79, d := 3, τ := (.st (.pr (.i .i64) (.pr (.i .i64) (.sl .u8))) : Ty) }] }
def ex23_0 : List (Nat × NS) := [(0, { slots := [(6, .pt 4110 []), (8, .ty (.i .i64))], roots := [(4110, .ag (.pr (.ty (.i .i64)) (.hw 79))), (79, .ar 3 (.st (.pr (.i .i64) (.pr (.i .i64) (.sl .u8)))))] })]
noncomputable def st23_0 (ih : (((List (Int × Int × List UInt8)) × Int × (List (Int × Int × List UInt8)) × Int × Int) × ((List (Int × Int × List UInt8)) × Int × Unit)) → Option (((Int) × ((Int × Unit) × List (Int × Int × List UInt8))) ⊕ (((Option (Int × List (Int × Int × List UInt8))) × Int)))) : (((List (Int × Int × List UInt8)) × Int × (List (Int × Int × List UInt8)) × Int × Int) × ((List (Int × Int × List UInt8)) × Int × Unit)) → Option (((Int) × ((Int × Unit) × List (Int × Int × List UInt8))) ⊕ (((Option (Int × List (Int × Int × List UInt8))) × Int))) := fun ((t1, t8, t29, t30, t31), (r79, (r4110_0, ()))) =>
  cond (decide (t31 < t30))
    (cond (decide (0 ≤ t31) && decide (t31 < (↑t29.length : Int)))
      (Option.bind (g44 (t29.getD t31.toNat (0, 0, [])).1 (t29.getD t31.toNat (0, 0, [])).2.1 (t29.getD t31.toNat (0, 0, [])).2.2) fun v1 =>
      cond (v1 != 0)
        (some (Sum.inr (none, v1)))
        (cond (decide (t31 > 0))
          (cond (decide (0 ≤ IntKind.i64.wrap (t31 - 1)) && decide (IntKind.i64.wrap (t31 - 1) < (↑t1.length : Int)))
            (cond ((t29.getD t31.toNat (0, 0, [])).1 != (t1.getD (IntKind.i64.wrap (t31 - 1)).toNat (0, 0, [])).2.1)
              (some (Sum.inr (none, 22)))
              (cond (decide (0 ≤ IntKind.i64.wrap (t31 - 1)) && decide (IntKind.i64.wrap (t31 - 1) < (↑t1.length : Int)))
                (cond ((↑(List.length (t1.getD (IntKind.i64.wrap (t31 - 1)).toNat (0, 0, [])).2.2) : Int) == 0)
                  (some (Sum.inr (none, 22)))
                  (Option.bind (g34 (t29.getD t31.toNat (0, 0, [])).1 (t29.getD t31.toNat (0, 0, [])).2.1 (t29.getD t31.toNat (0, 0, [])).2.2) fun v2 =>
                  cond (decide (r79.length + 1 ≤ 2147483647))
                    (ih ((t1, IntKind.i64.wrap (t8 + IntKind.i64.wrap ((t29.getD t31.toNat (0, 0, [])).2.1 - (t29.getD t31.toNat (0, 0, [])).1)), t29, t30, IntKind.i64.wrap (t31 + 1)), r79 ++ [v2], r4110_0, ()))
                    (none)))
                (none)))
            (none))
          (Option.bind (g34 (t29.getD t31.toNat (0, 0, [])).1 (t29.getD t31.toNat (0, 0, [])).2.1 (t29.getD t31.toNat (0, 0, [])).2.2) fun v3 =>
          cond (decide (r79.length + 1 ≤ 2147483647))
            (ih ((t1, IntKind.i64.wrap (t8 + IntKind.i64.wrap ((t29.getD t31.toNat (0, 0, [])).2.1 - (t29.getD t31.toNat (0, 0, [])).1)), t29, t30, IntKind.i64.wrap (t31 + 1)), r79 ++ [v3], r4110_0, ()))
            (none))))
      (none))
    (some (Sum.inl (t8, (r4110_0, ()), r79)))
noncomputable def h23_0 : (((List (Int × Int × List UInt8)) × Int × (List (Int × Int × List UInt8)) × Int × Int) × ((List (Int × Int × List UInt8)) × Int × Unit)) → Option (((Int) × ((Int × Unit) × List (Int × Int × List UInt8))) ⊕ (((Option (Int × List (Int × Int × List UInt8))) × Int))) := loopN st23_0 fuel
noncomputable def l23_0 : LI D23 := ⟨ns23_0, ex23_0, h23_0⟩
noncomputable def lv23 : Nat → Option (LI D23) := fun q => if q = 7 then some l23_0 else (fun _ => none) q
noncomputable def g23 (a0 : Int) (a1 : List (Int × Int × List UInt8)) : Option ((Option (Int × List (Int × Int × List UInt8))) × Int) :=
  Option.bind (g9 a0) fun v1 =>
  Option.elim (v1.1)
    (cond (v1.2 != 0)
      (some ((none, v1.2)))
      (cond ((↑a1.length : Int) == 0)
        (some ((none, v1.2)))
        (none)))
    fun y2 => cond (v1.2 != 0)
      (some ((some y2, v1.2)))
      (cond ((↑a1.length : Int) == 0)
        (some ((some y2, v1.2)))
        (Option.bind (h23_0 ((a1, 0, a1, (↑a1.length : Int), 0), [], y2.1, ())) fun v3 =>
        match v3 with
        | .inl x4 =>
          cond (decide (x4.1 > 4096))
            (some ((none, 6)))
            (some ((some (x4.2.1.1, x4.2.2), 0)))
        | .inr x4 =>
          some (x4)))
noncomputable def i23 : FI := ⟨ps23, .tup (.pr (.opt (.ag (.pr (.ty (.i .i64)) (.ow 3 (.st (.pr (.i .i64) (.pr (.i .i64) (.sl .u8)))))))) (.ty (.i .i64))), fun (a0, a1) => g23 a0 a1⟩
theorem s23_0 : st23_0 = stepEval T Y env23 an lv23 (finO T false ps23 (.tup (.pr (.opt (.ag (.pr (.ty (.i .i64)) (.ow 3 (.st (.pr (.i .i64) (.pr (.i .i64) (.sl .u8)))))))) (.ty (.i .i64)))) Try.f23.results.toList) (loopAt c23 0) ns23_0 ex23_0 := by kernel_rfl
theorem e23 : (fun a => i23.G a) = fnEval T Y env23 an i23.ps i23.rs false Try.f23.results.toList lv23 c23 := by kernel_rfl
theorem lo23 : loopsOf c23 = [loopAt c23 0] := by kernel_rfl
theorem ll23 : LoopsOk T Y env23 an lv23 (finO T false ps23 (.tup (.pr (.opt (.ag (.pr (.ty (.i .i64)) (.ow 3 (.st (.pr (.i .i64) (.pr (.i .i64) (.sl .u8)))))))) (.ty (.i .i64)))) Try.f23.results.toList) c23 := loopsOk_of (by rw [lo23]; exact ⟨loop1 (li := l23_0) (by kernel_rfl) (by kernel_rfl) s23_0, trivial⟩)
theorem k23 : FnOk Try.prog 23 i23 :=
  fn_ok (T := T) (Y := Y) (an := an) (env := env23) (fr := false) (lenv := lv23) mixed tok.1 tok.2 (envCons k9 (envCons k44 (envCons k34 (envNil)))) (fn := Try.f23) (c := c23) (by kernel_rfl) (by kernel_rfl) (by kernel_rfl) ll23 (fun a => congrFun e23 a)
/-! ### broker/brokerlaw34.short -/
noncomputable def c7 : Code := Try.f7.body.getD .skip
noncomputable def env7 : Env := mkEnv []
abbrev ps7 : List PSh := [.d (.sl (.st (.pr (.i .u8) (.pr (.i .i64) (.pr (.i .i64) (.st (.pr (.i .i64) (.pr (.i .i64) (.pr .s .s)))))))))]
abbrev D7 : Type := pairD (.ty .b) (osOf ps7)
def ns7_0 : NS := { slots := [(0, .ty (.sl (.st (.pr (.i .u8) (.pr (.i .i64) (.pr (.i .i64) (.st (.pr (.i .i64) (.pr (.i .i64) (.pr .s .s)))))))))), (3, .ty (.i .i64))], roots := [] }
def ex7_0 : List (Nat × NS) := [(0, { slots := [], roots := [] })]
noncomputable def st7_0 (ih : (((List (Int × Int × Int × Int × Int × List UInt8 × List UInt8)) × Int) × (Unit)) → Option (((Unit) × (Unit)) ⊕ Bool)) : (((List (Int × Int × Int × Int × Int × List UInt8 × List UInt8)) × Int) × (Unit)) → Option (((Unit) × (Unit)) ⊕ Bool) := fun ((t0, t3), ()) =>
  cond (decide (t3 < (↑t0.length : Int)))
    (cond (decide (0 ≤ t3) && decide (t3 < (↑t0.length : Int)))
      (cond (decide ((↑(List.length (t0.getD t3.toNat (0, 0, 0, 0, 0, [], [])).2.2.2.2.2.1) : Int) > 200))
        (some (Sum.inr false))
        (cond (decide (0 ≤ t3) && decide (t3 < (↑t0.length : Int)))
          (cond (decide ((↑(List.length (t0.getD t3.toNat (0, 0, 0, 0, 0, [], [])).2.2.2.2.2.2) : Int) > 200))
            (some (Sum.inr false))
            (ih ((t0, IntKind.i64.wrap (t3 + 1)), ())))
          (none)))
      (none))
    (some (Sum.inl ((), ())))
noncomputable def h7_0 : (((List (Int × Int × Int × Int × Int × List UInt8 × List UInt8)) × Int) × (Unit)) → Option (((Unit) × (Unit)) ⊕ Bool) := loopN st7_0 fuel
noncomputable def l7_0 : LI D7 := ⟨ns7_0, ex7_0, h7_0⟩
noncomputable def lv7 : Nat → Option (LI D7) := fun q => if q = 4 then some l7_0 else (fun _ => none) q
noncomputable def g7 (a0 : List (Int × Int × Int × Int × Int × List UInt8 × List UInt8)) : Option (Bool) :=
  cond (decide ((↑a0.length : Int) > 40))
    (some (false))
    (Option.bind (h7_0 ((a0, 0), ())) fun v1 =>
    match v1 with
    | .inl x2 =>
      some (true)
    | .inr x2 =>
      some (x2))
noncomputable def i7 : FI := ⟨ps7, .ty .b, fun a0 => g7 a0⟩
theorem s7_0 : st7_0 = stepEval T Y env7 an lv7 (finO T true ps7 (.ty .b) Try.f7.results.toList) (loopAt c7 0) ns7_0 ex7_0 := by kernel_rfl
theorem e7 : (fun a => i7.G a) = fnEval T Y env7 an i7.ps i7.rs true Try.f7.results.toList lv7 c7 := by kernel_rfl
theorem lo7 : loopsOf c7 = [loopAt c7 0] := by kernel_rfl
theorem ll7 : LoopsOk T Y env7 an lv7 (finO T true ps7 (.ty .b) Try.f7.results.toList) c7 := loopsOk_of (by rw [lo7]; exact ⟨loop1 (li := l7_0) (by kernel_rfl) (by kernel_rfl) s7_0, trivial⟩)
theorem k7 : FnOk Try.prog 7 i7 :=
  fn_ok (T := T) (Y := Y) (an := an) (env := env7) (fr := true) (lenv := lv7) mixed tok.1 tok.2 (envNil) (fn := Try.f7) (c := c7) (by kernel_rfl) (by kernel_rfl) (by kernel_rfl) ll7 (fun a => congrFun e7 a)
/-! ### broker/brokerlaw34.awake -/
noncomputable def c8 : Code := Try.f8.body.getD .skip
noncomputable def env8 : Env := mkEnv [(9, i9), (10, i10), (16, i16), (14, i14), (11, i11), (12, i12), (13, i13), (26, i26)]
abbrev ps8 : List PSh := []
abbrev D8 : Type := pairD (.ty .b) (osOf ps8)
def ns8_0 : NS := { slots := [(1, .pt 4106 []), (3, .ty (.i .i64))], roots := [(8202, .ar 3 (.st (.pr (.i .i64) (.pr (.i .i64) (.sl .u8))))), (4106, .ag (.pr (.ty (.i .i64)) (.hw 8202)))], ad := [{ t := 1, path := [(1, 1)], g := 8202, d := 3, τ := (.st (.pr (.i .i64) (.pr (.i .i64) (.sl .u8))) : Ty) }] }
def ex8_0 : List (Nat × NS) := [(0, { slots := [(1, .pt 4106 [])], roots := [(4106, .ag (.pr (.ty (.i .i64)) (.hw 8202))), (8202, .ar 3 (.st (.pr (.i .i64) (.pr (.i .i64) (.sl .u8)))))] })]
noncomputable def st8_0 (ih : ((Int) × ((List (Int × Int × List UInt8)) × Int × Unit)) → Option (((Unit) × ((Int × Unit) × List (Int × Int × List UInt8))) ⊕ Bool)) : ((Int) × ((List (Int × Int × List UInt8)) × Int × Unit)) → Option (((Unit) × ((Int × Unit) × List (Int × Int × List UInt8))) ⊕ Bool) := fun (t3, (r8202, (r4106_0, ()))) =>
  cond (decide (t3 < 6))
    (Option.bind (g10 r4106_0 r8202 1 [107] [118]) fun v1 =>
    cond (v1.1.1 != t3)
      (some (Sum.inr false))
      (cond (v1.1.2 != 0)
        (some (Sum.inr false))
        (ih (IntKind.i64.wrap (t3 + 1), v1.2.2, v1.2.1, ()))))
    (some (Sum.inl ((), (r4106_0, ()), r8202)))
noncomputable def h8_0 : ((Int) × ((List (Int × Int × List UInt8)) × Int × Unit)) → Option (((Unit) × ((Int × Unit) × List (Int × Int × List UInt8))) ⊕ Bool) := loopN st8_0 fuel
noncomputable def l8_0 : LI D8 := ⟨ns8_0, ex8_0, h8_0⟩
noncomputable def lv8 : Nat → Option (LI D8) := fun q => if q = 5 then some l8_0 else (fun _ => none) q
noncomputable def g8 : Option (Bool) :=
  Option.bind (g9 64) fun v1 =>
  Option.elim (v1.1)
    (cond (v1.2 != 0)
      (some (false))
      (some (false)))
    fun y2 => cond (v1.2 != 0)
      (some (false))
      (Option.bind (h8_0 (0, y2.2, y2.1, ())) fun v3 =>
      match v3 with
      | .inl x4 =>
        Option.bind (g16 x4.2.1.1 x4.2.2) fun v5 =>
        cond ((↑(List.length v5.1) : Int) != 2)
          (some (false))
          (cond (decide (0 ≤ 1) && decide (1 < (↑(List.length v5.1) : Int)))
            (cond ((List.getD v5.1 (Int.toNat 1) (0, 0, [])).1 != 5)
              (some (false))
              (cond (decide (0 ≤ 0) && decide (0 < (↑(List.length v5.1) : Int)))
                (cond ((↑(List.length (List.getD v5.1 (Int.toNat 0) (0, 0, [])).2.2) : Int) != 55)
                  (some (false))
                  (Option.bind (g14 v5.2.1 v5.2.2 4 1) fun v6 =>
                  Option.bind (g11 v6.2.1 v6.2.2 5) fun v7 =>
                  cond (v7.1 == 5)
                    (Option.bind (g12 v7.2.1 v7.2.2) fun v8 =>
                    cond (v8.1 == 5)
                      (Option.bind (g13 v8.2.1 v8.2.2) fun v9 =>
                      cond (v9.1 == 6)
                        (cond ((↑(List.length v6.1.1) : Int) == 1)
                          (cond (v6.1.2 == 0)
                            (cond (decide (0 ≤ 0) && decide (0 < (↑(List.length v6.1.1) : Int)))
                              (cond ((List.getD v6.1.1 (Int.toNat 0) (0, 0, [], [])).1 == 4)
                                (Option.bind (g26 v9.2.1 v9.2.2 5) fun v10 =>
                                cond (v10.1 == 0)
                                  (Option.bind (g13 v10.2.1 v10.2.2) fun v11 =>
                                  some (v11.1 == 5))
                                  (some (false)))
                                (some (false)))
                              (none))
                            (some (false)))
                          (some (false)))
                        (some (false)))
                      (some (false)))
                    (some (false))))
                (none)))
            (none))
      | .inr x4 =>
        some (x4))
noncomputable def i8 : FI := ⟨ps8, .ty .b, fun _ => g8⟩
theorem s8_0 : st8_0 = stepEval T Y env8 an lv8 (finO T true ps8 (.ty .b) Try.f8.results.toList) (loopAt c8 0) ns8_0 ex8_0 := by kernel_rfl
theorem e8 : (fun a => i8.G a) = fnEval T Y env8 an i8.ps i8.rs true Try.f8.results.toList lv8 c8 := by kernel_rfl
theorem lo8 : loopsOf c8 = [loopAt c8 0] := by kernel_rfl
theorem ll8 : LoopsOk T Y env8 an lv8 (finO T true ps8 (.ty .b) Try.f8.results.toList) c8 := loopsOk_of (by rw [lo8]; exact ⟨loop1 (li := l8_0) (by kernel_rfl) (by kernel_rfl) s8_0, trivial⟩)
theorem k8 : FnOk Try.prog 8 i8 :=
  fn_ok (T := T) (Y := Y) (an := an) (env := env8) (fr := true) (lenv := lv8) mixed tok.1 tok.2 (envCons k9 (envCons k10 (envCons k16 (envCons k14 (envCons k11 (envCons k12 (envCons k13 (envCons k26 (envNil))))))))) (fn := Try.f8) (c := c8) (by kernel_rfl) (by kernel_rfl) (by kernel_rfl) ll8 (fun a => congrFun e8 a)
end Go.Proofs.Ytbncnkchedhnpaa.EVT
