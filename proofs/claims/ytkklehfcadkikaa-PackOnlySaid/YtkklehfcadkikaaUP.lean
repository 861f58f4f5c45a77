/- What functions compute, as printed (U, part P). -/
import Derived.Test.YtkklehfcadkikaaUA
set_option linter.unusedVariables false
set_option maxRecDepth 100000
set_option maxHeartbeats 0
namespace Go.Proofs.Ytkklehfcadkikaa.EVT
open Go Go.EV
/-! ### broker/pack.PutTexts -/
noncomputable def c28 : Code := Try.f28.body.getD .skip
noncomputable def env28 : Env := mkEnv [(54, i54), (53, i53)]
abbrev ps28 : List PSh := [.d (.sl .u8), .d (.sl .s)]
abbrev D28 : Type := pairD (.ow 1 .u8) (osOf ps28)
def ns28_0 : NS := { slots := [(5, .hw 24), (13, .ty (.sl .s)), (14, .ty (.i .i64)), (15, .ty (.i .i64))], roots := [(24, .ar 1 .u8)], ad := [{ t := 5, path := [], g := 24, d := 1, τ := (.u8 : Ty) }] }
def ex28_0 : List (Nat × NS) := [(0, { slots := [(5, .hw 24)], roots := [(24, .ar 1 .u8)] })]
noncomputable def st28_0 (ih : ((List (List UInt8) × Int × Int) × (List UInt8)) → Option (((Unit) × (List UInt8)) ⊕ (List UInt8))) : ((List (List UInt8) × Int × Int) × (List UInt8)) → Option (((Unit) × (List UInt8)) ⊕ (List UInt8)) := fun ((t13, t14, t15), r24) =>
  cond (decide (t15 < t14))
    (cond (decide (0 ≤ t15) && decide (t15 < (↑t13.length : Int)))
      (Option.bind (g53 r24 (↑(t13.getD t15.toNat []).length : Int)) fun v1 =>
      cond (decide (List.length v1 + (t13.getD t15.toNat []).length ≤ 2147483647))
        (ih ((t13, t14, IntKind.i64.wrap (t15 + 1)), v1 ++ t13.getD t15.toNat []))
        (none))
      (none))
    (some (Sum.inl ((), r24)))
noncomputable def h28_0 : ((List (List UInt8) × Int × Int) × (List UInt8)) → Option (((Unit) × (List UInt8)) ⊕ (List UInt8)) := loopN st28_0 fuel
noncomputable def l28_0 : LI D28 := ⟨ns28_0, ex28_0, h28_0⟩
noncomputable def lv28 : Nat → Option (LI D28) := fun q => if q = 3 then some l28_0 else (fun _ => none) q
noncomputable def g28 (a0 : List UInt8) (a1 : List (List UInt8)) : Option (List UInt8) :=
  Option.bind (g54 a0 10) fun v1 =>
  Option.bind (g53 v1 (↑a1.length : Int)) fun v2 =>
  Option.bind (h28_0 ((a1, (↑a1.length : Int), 0), v2)) fun v3 =>
  match v3 with
  | .inl x4 =>
    some (x4.2)
  | .inr x4 =>
    some (x4)
noncomputable def i28 : FI := ⟨ps28, .ow 1 .u8, fun (a0, a1) => g28 a0 a1⟩
theorem s28_0 : st28_0 = stepEval T Y env28 an lv28 (finO T false ps28 (.ow 1 .u8) Try.f28.results.toList) (loopAt c28 0) ns28_0 ex28_0 := by kernel_rfl
theorem e28 : (fun a => i28.G a) = fnEval T Y env28 an i28.ps i28.rs false Try.f28.results.toList lv28 c28 := by kernel_rfl
theorem lo28 : loopsOf c28 = [loopAt c28 0] := by kernel_rfl
theorem ll28 : LoopsOk T Y env28 an lv28 (finO T false ps28 (.ow 1 .u8) Try.f28.results.toList) c28 := loopsOk_of (by rw [lo28]; exact ⟨loop1 (li := l28_0) (by kernel_rfl) (by kernel_rfl) s28_0, trivial⟩)
theorem k28 : FnOk Try.prog 28 i28 :=
  fn_ok (T := T) (Y := Y) (an := an) (env := env28) (fr := false) (lenv := lv28) mixed tok.1 tok.2 (envCons k54 (envCons k53 (envNil))) (fn := Try.f28) (c := c28) (by kernel_rfl) (by kernel_rfl) (by kernel_rfl) ll28 (fun a => congrFun e28 a)
/-! ### broker/pack.Flags -/
noncomputable def c30 : Code := Try.f30.body.getD .skip
noncomputable def env30 : Env := mkEnv []
abbrev ps30 : List PSh := [.d (.sl .b)]
abbrev D30 : Type := pairD (.ty (.i .i64)) (osOf ps30)
def ns30_0 : NS := { slots := [(0, .ty (.sl .b)), (3, .ty (.i .i64)), (4, .ty (.i .i64))], roots := [] }
def ex30_0 : List (Nat × NS) := [(0, { slots := [(3, .ty (.i .i64))], roots := [] })]
noncomputable def st30_0 (ih : ((List Bool × Int × Int) × (Unit)) → Option (((Int) × (Unit)) ⊕ Int)) : ((List Bool × Int × Int) × (Unit)) → Option (((Int) × (Unit)) ⊕ Int) := fun ((t0, t3, t4), ()) =>
  cond (decide (t4 < (↑t0.length : Int)))
    (cond (decide (t4 < 32))
      (cond (decide (0 ≤ t4) && decide (t4 < (↑t0.length : Int)))
        (cond (t0.getD t4.toNat false)
          (cond (!decide (t4 < 0))
            (ih ((t0, IntKind.i64.wrap (↑(BitVec.ofInt IntKind.i64.bits t3 ||| BitVec.ofInt IntKind.i64.bits (IntKind.i64.wrap (1 * 2 ^ min t4.toNat IntKind.i64.bits))).toNat : Int), IntKind.i64.wrap (t4 + 1)), ()))
            (none))
          (ih ((t0, t3, IntKind.i64.wrap (t4 + 1)), ())))
        (none))
      (some (Sum.inl (t3, ()))))
    (some (Sum.inl (t3, ())))
noncomputable def h30_0 : ((List Bool × Int × Int) × (Unit)) → Option (((Int) × (Unit)) ⊕ Int) := loopN st30_0 fuel
noncomputable def l30_0 : LI D30 := ⟨ns30_0, ex30_0, h30_0⟩
noncomputable def lv30 : Nat → Option (LI D30) := fun q => if q = 3 then some l30_0 else (fun _ => none) q
noncomputable def g30 (a0 : List Bool) : Option (Int) :=
  Option.bind (h30_0 ((a0, 0, 0), ())) fun v1 =>
  match v1 with
  | .inl x2 =>
    some (x2.1)
  | .inr x2 =>
    some (x2)
noncomputable def i30 : FI := ⟨ps30, .ty (.i .i64), fun a0 => g30 a0⟩
theorem s30_0 : st30_0 = stepEval T Y env30 an lv30 (finO T true ps30 (.ty (.i .i64)) Try.f30.results.toList) (loopAt c30 0) ns30_0 ex30_0 := by kernel_rfl
theorem e30 : (fun a => i30.G a) = fnEval T Y env30 an i30.ps i30.rs true Try.f30.results.toList lv30 c30 := by kernel_rfl
theorem lo30 : loopsOf c30 = [loopAt c30 0] := by kernel_rfl
theorem ll30 : LoopsOk T Y env30 an lv30 (finO T true ps30 (.ty (.i .i64)) Try.f30.results.toList) c30 := loopsOk_of (by rw [lo30]; exact ⟨loop1 (li := l30_0) (by kernel_rfl) (by kernel_rfl) s30_0, trivial⟩)
theorem k30 : FnOk Try.prog 30 i30 :=
  fn_ok (T := T) (Y := Y) (an := an) (env := env30) (fr := true) (lenv := lv30) mixed tok.1 tok.2 (envNil) (fn := Try.f30) (c := c30) (by kernel_rfl) (by kernel_rfl) (by kernel_rfl) ll30 (fun a => congrFun e30 a)
/-! ### broker/pack.Flag -/
noncomputable def c32 : Code := Try.f32.body.getD .skip
noncomputable def env32 : Env := mkEnv []
abbrev ps32 : List PSh := [.d (.i .i64), .d (.i .i64)]
abbrev D32 : Type := pairD (.ty .b) (osOf ps32)
noncomputable def lv32 : Nat → Option (LI D32) := fun _ => none
noncomputable def g32 (a0 : Int) (a1 : Int) : Option (Bool) :=
  cond (decide (a1 ≥ 0))
    (cond (decide (a1 < 32))
      (cond (!decide (a1 < 0))
        (some (IntKind.i64.wrap (↑(BitVec.ofInt IntKind.i64.bits (a0.fdiv (2 ^ min a1.toNat IntKind.i64.bits)) &&& BitVec.ofInt IntKind.i64.bits 1).toNat : Int) == 1))
        (none))
      (some (false)))
    (some (false))
noncomputable def i32 : FI := ⟨ps32, .ty .b, fun (a0, a1) => g32 a0 a1⟩
theorem e32 : (fun a => i32.G a) = fnEval T Y env32 an i32.ps i32.rs true Try.f32.results.toList lv32 c32 := by kernel_rfl
theorem lo32 : loopsOf c32 = [] := by kernel_rfl
theorem ll32 : LoopsOk T Y env32 an lv32 (finO T true ps32 (.ty .b) Try.f32.results.toList) c32 := loopsOk_of (by rw [lo32]; exact trivial)
theorem k32 : FnOk Try.prog 32 i32 :=
  fn_ok (T := T) (Y := Y) (an := an) (env := env32) (fr := true) (lenv := lv32) mixed tok.1 tok.2 (envNil) (fn := Try.f32) (c := c32) (by kernel_rfl) (by kernel_rfl) (by kernel_rfl) ll32 (fun a => congrFun e32 a)
/-! ### broker/brokerlaw03.awake -/
noncomputable def c19 : Code := Try.f19.body.getD .skip
noncomputable def env19 : Env := mkEnv [(23, i23), (43, i43), (21, i21), (26, i26), (28, i28), (30, i30), (32, i32)]
abbrev ps19 : List PSh := []
abbrev D19 : Type := pairD (.ty .b) (osOf ps19)
noncomputable def lv19 : Nat → Option (LI D19) := fun _ => none
noncomputable def g19 : Option (Bool) :=
  Option.bind (g23 [UInt8.ofNat (Int.toNat 128), UInt8.ofNat (Int.toNat 1)] 0) fun v1 =>
  Option.bind (g43 [UInt8.ofNat (Int.toNat 9), UInt8.ofNat (Int.toNat 4), UInt8.ofNat (Int.toNat 97), UInt8.ofNat (Int.toNat 98)] 1 2) fun v2 =>
  cond (v1.1 == 64)
    (cond (v1.2.1 == 2)
      (cond (v1.2.2 == 0)
        (cond (v2.1 == [97, 98])
          (cond (v2.2.1 == 4)
            (cond (v2.2.2 == 0)
              (Option.bind (g21 [] (-64)) fun v3 =>
              cond (v3 == [127])
                (Option.bind (g26 [UInt8.ofNat (Int.toNat 7)] [97, 98]) fun v4 =>
                cond (v4 == [7, 4, 97, 98])
                  (Option.bind (g28 [] [[97, 98], []]) fun v5 =>
                  cond (v5 == [4, 4, 97, 98, 0])
                    (Option.bind (g30 [true, false, true]) fun v6 =>
                    cond (v6 == 5)
                      (Option.bind (g32 5 2) fun v7 =>
                      some (v7))
                      (some (false)))
                    (some (false)))
                  (some (false)))
                (some (false)))
              (some (false)))
            (some (false)))
          (some (false)))
        (some (false)))
      (some (false)))
    (some (false))
noncomputable def i19 : FI := ⟨ps19, .ty .b, fun _ => g19⟩
theorem e19 : (fun a => i19.G a) = fnEval T Y env19 an i19.ps i19.rs true Try.f19.results.toList lv19 c19 := by kernel_rfl
theorem lo19 : loopsOf c19 = [] := by kernel_rfl
theorem ll19 : LoopsOk T Y env19 an lv19 (finO T true ps19 (.ty .b) Try.f19.results.toList) c19 := loopsOk_of (by rw [lo19]; exact trivial)
theorem k19 : FnOk Try.prog 19 i19 :=
  fn_ok (T := T) (Y := Y) (an := an) (env := env19) (fr := true) (lenv := lv19) mixed tok.1 tok.2 (envCons k23 (envCons k43 (envCons k21 (envCons k26 (envCons k28 (envCons k30 (envCons k32 (envNil)))))))) (fn := Try.f19) (c := c19) (by kernel_rfl) (by kernel_rfl) (by kernel_rfl) ll19 (fun a => congrFun e19 a)
/-! ### broker/pack.Texts -/
noncomputable def c45 : Code := Try.f45.body.getD .skip
noncomputable def env45 : Env := mkEnv [(23, i23), (43, i43)]
abbrev ps45 : List PSh := [.d (.sl .u8), .d (.i .i64), .d (.i .i64)]
abbrev D45 : Type := pairD (.tup (.pr (.ty (.sl .s)) (.pr (.ty (.i .i64)) (.ty (.i .i64))))) (osOf ps45)
def ns45_0 : NS := { slots := [(12, .hw 51), (0, .ty (.sl .u8)), (2, .ty (.i .i64)), (10, .ty (.i .i64)), (34, .ty (.i .i64)), (35, .ty (.i .i64))], roots := [(51, .ar 1 .s)], ad := [{ t := 12, path := [], g := 51, d := 1, τ := (.s : Ty) }] }
def ex45_0 : List (Nat × NS) := [(1, { slots := [(12, .hw 51), (10, .ty (.i .i64))], roots := [(51, .ar 1 .s)] })]
noncomputable def st45_0 (ih : ((List UInt8 × Int × Int × Int × Int) × (List (List UInt8))) → Option (((Int) × (List (List UInt8))) ⊕ ((List (List UInt8) × Int × Int)))) : ((List UInt8 × Int × Int × Int × Int) × (List (List UInt8))) → Option (((Int) × (List (List UInt8))) ⊕ ((List (List UInt8) × Int × Int))) := fun ((t0, t2, t10, t34, t35), r51) =>
  cond (decide (t35 < t34))
    (Option.bind (g43 t0 t10 t2) fun v1 =>
    cond (v1.2.2 != 0)
      (some (Sum.inr ([], 0, v1.2.2)))
      (cond (decide (r51.length + 1 ≤ 2147483647))
        (ih ((t0, t2, v1.2.1, t34, IntKind.i64.wrap (t35 + 1)), r51 ++ [v1.1]))
        (none)))
    (some (Sum.inl (t10, r51)))
noncomputable def h45_0 : ((List UInt8 × Int × Int × Int × Int) × (List (List UInt8))) → Option (((Int) × (List (List UInt8))) ⊕ ((List (List UInt8) × Int × Int))) := loopN st45_0 fuel
noncomputable def l45_0 : LI D45 := ⟨ns45_0, ex45_0, h45_0⟩
noncomputable def lv45 : Nat → Option (LI D45) := fun q => if q = 10 then some l45_0 else (fun _ => none) q
noncomputable def g45 (a0 : List UInt8) (a1 : Int) (a2 : Int) : Option (List (List UInt8) × Int × Int) :=
  Option.bind (g23 a0 a1) fun v1 =>
  cond (v1.2.2 != 0)
    (some (([], 0, v1.2.2)))
    (cond (decide (v1.1 < 0))
      (some (([], 0, 2)))
      (cond (decide (v1.1 > a2))
        (some (([], 0, 5)))
        (Option.bind (h45_0 ((a0, a2, v1.2.1, v1.1, 0), [])) fun v2 =>
        match v2 with
        | .inl x3 =>
          some ((x3.2, x3.1, 0))
        | .inr x3 =>
          some (x3))))
noncomputable def i45 : FI := ⟨ps45, .tup (.pr (.ty (.sl .s)) (.pr (.ty (.i .i64)) (.ty (.i .i64)))), fun (a0, a1, a2) => g45 a0 a1 a2⟩
theorem s45_0 : st45_0 = stepEval T Y env45 an lv45 (finO T true ps45 (.tup (.pr (.ty (.sl .s)) (.pr (.ty (.i .i64)) (.ty (.i .i64))))) Try.f45.results.toList) (loopAt c45 0) ns45_0 ex45_0 := by kernel_rfl
theorem e45 : (fun a => i45.G a) = fnEval T Y env45 an i45.ps i45.rs true Try.f45.results.toList lv45 c45 := by kernel_rfl
theorem lo45 : loopsOf c45 = [loopAt c45 0] := by kernel_rfl
theorem ll45 : LoopsOk T Y env45 an lv45 (finO T true ps45 (.tup (.pr (.ty (.sl .s)) (.pr (.ty (.i .i64)) (.ty (.i .i64))))) Try.f45.results.toList) c45 := loopsOk_of (by rw [lo45]; exact ⟨loop1 (li := l45_0) (by kernel_rfl) (by kernel_rfl) s45_0, trivial⟩)
theorem k45 : FnOk Try.prog 45 i45 :=
  fn_ok (T := T) (Y := Y) (an := an) (env := env45) (fr := true) (lenv := lv45) mixed tok.1 tok.2 (envCons k23 (envCons k43 (envNil))) (fn := Try.f45) (c := c45) (by kernel_rfl) (by kernel_rfl) (by kernel_rfl) ll45 (fun a => congrFun e45 a)
/-! ### broker/brokerlaw03.PackOnly -/
noncomputable def c15 : Code := Try.f15.body.getD .skip
noncomputable def env15 : Env := mkEnv [(19, i19), (23, i23), (21, i21), (43, i43), (26, i26), (45, i45), (28, i28)]
abbrev ps15 : List PSh := [.d (.sl .u8), .d (.i .i64)]
abbrev D15 : Type := pairD (.ty .b) (osOf ps15)
noncomputable def lv15 : Nat → Option (LI D15) := fun _ => none
noncomputable def g15 (a0 : List UInt8) (a1 : Int) : Option (Bool) :=
  cond (decide ((↑a0.length : Int) > 400))
    (Option.bind (g19) fun v1 =>
    some (v1))
    (Option.bind (g23 a0 0) fun v2 =>
    cond (v2.2.2 == 0)
      (cond (decide (v2.2.1 < 1))
        (some (false))
        (cond (decide (v2.2.1 > (↑a0.length : Int)))
          (some (false))
          (cond (decide (v2.2.1 > 10))
            (some (false))
            (Option.bind (g21 [] v2.1) fun v3 =>
            cond (decide (0 ≤ v2.2.1) && decide (v2.2.1 ≤ (↑a0.length : Int)) && true)
              (cond (!v3 == List.drop 0 (List.take (Int.toNat v2.2.1) a0))
                (some (false))
                (Option.bind (g43 a0 0 a1) fun v4 =>
                cond (v4.2.2 == 0)
                  (cond (decide (v4.2.1 < 1))
                    (some (false))
                    (cond (decide (v4.2.1 > (↑a0.length : Int)))
                      (some (false))
                      (cond (decide ((↑(List.length v4.1) : Int) > a1))
                        (some (false))
                        (Option.bind (g26 [] v4.1) fun v5 =>
                        cond (decide (0 ≤ v4.2.1) && decide (v4.2.1 ≤ (↑a0.length : Int)) && true)
                          (cond (!v5 == List.drop 0 (List.take (Int.toNat v4.2.1) a0))
                            (some (false))
                            (Option.bind (g45 a0 0 a1) fun v6 =>
                            cond (v6.2.2 != 0)
                              (Option.bind (g19) fun v7 =>
                              some (v7))
                              (cond (decide (v6.2.1 ≥ 1))
                                (cond (decide (v6.2.1 ≤ (↑a0.length : Int)))
                                  (cond (decide ((↑(List.length v6.1) : Int) ≤ a1))
                                    (Option.bind (g28 [] v6.1) fun v8 =>
                                    cond (decide (0 ≤ v6.2.1) && decide (v6.2.1 ≤ (↑a0.length : Int)) && true)
                                      (cond (v8 == List.drop 0 (List.take (Int.toNat v6.2.1) a0))
                                        (Option.bind (g19) fun v9 =>
                                        some (v9))
                                        (some (false)))
                                      (none))
                                    (some (false)))
                                  (some (false)))
                                (some (false)))))
                          (none)))))
                  (Option.bind (g45 a0 0 a1) fun v10 =>
                  cond (v10.2.2 != 0)
                    (Option.bind (g19) fun v11 =>
                    some (v11))
                    (cond (decide (v10.2.1 ≥ 1))
                      (cond (decide (v10.2.1 ≤ (↑a0.length : Int)))
                        (cond (decide ((↑(List.length v10.1) : Int) ≤ a1))
                          (Option.bind (g28 [] v10.1) fun v12 =>
                          cond (decide (0 ≤ v10.2.1) && decide (v10.2.1 ≤ (↑a0.length : Int)) && true)
                            (cond (v12 == List.drop 0 (List.take (Int.toNat v10.2.1) a0))
                              (Option.bind (g19) fun v13 =>
                              some (v13))
                              (some (false)))
                            (none))
                          (some (false)))
                        (some (false)))
                      (some (false))))))
              (none)))))
      (Option.bind (g43 a0 0 a1) fun v14 =>
      cond (v14.2.2 == 0)
        (cond (decide (v14.2.1 < 1))
          (some (false))
          (cond (decide (v14.2.1 > (↑a0.length : Int)))
            (some (false))
            (cond (decide ((↑(List.length v14.1) : Int) > a1))
              (some (false))
              (Option.bind (g26 [] v14.1) fun v15 =>
              cond (decide (0 ≤ v14.2.1) && decide (v14.2.1 ≤ (↑a0.length : Int)) && true)
                (cond (!v15 == List.drop 0 (List.take (Int.toNat v14.2.1) a0))
                  (some (false))
                  (Option.bind (g45 a0 0 a1) fun v16 =>
                  cond (v16.2.2 != 0)
                    (Option.bind (g19) fun v17 =>
                    some (v17))
                    (cond (decide (v16.2.1 ≥ 1))
                      (cond (decide (v16.2.1 ≤ (↑a0.length : Int)))
                        (cond (decide ((↑(List.length v16.1) : Int) ≤ a1))
                          (Option.bind (g28 [] v16.1) fun v18 =>
                          cond (decide (0 ≤ v16.2.1) && decide (v16.2.1 ≤ (↑a0.length : Int)) && true)
                            (cond (v18 == List.drop 0 (List.take (Int.toNat v16.2.1) a0))
                              (Option.bind (g19) fun v19 =>
                              some (v19))
                              (some (false)))
                            (none))
                          (some (false)))
                        (some (false)))
                      (some (false)))))
                (none)))))
        (Option.bind (g45 a0 0 a1) fun v20 =>
        cond (v20.2.2 != 0)
          (Option.bind (g19) fun v21 =>
          some (v21))
          (cond (decide (v20.2.1 ≥ 1))
            (cond (decide (v20.2.1 ≤ (↑a0.length : Int)))
              (cond (decide ((↑(List.length v20.1) : Int) ≤ a1))
                (Option.bind (g28 [] v20.1) fun v22 =>
                cond (decide (0 ≤ v20.2.1) && decide (v20.2.1 ≤ (↑a0.length : Int)) && true)
                  (cond (v22 == List.drop 0 (List.take (Int.toNat v20.2.1) a0))
                    (Option.bind (g19) fun v23 =>
                    some (v23))
                    (some (false)))
                  (none))
                (some (false)))
              (some (false)))
            (some (false))))))
noncomputable def i15 : FI := ⟨ps15, .ty .b, fun (a0, a1) => g15 a0 a1⟩
theorem e15 : (fun a => i15.G a) = fnEval T Y env15 an i15.ps i15.rs true Try.f15.results.toList lv15 c15 := by kernel_rfl
theorem lo15 : loopsOf c15 = [] := by kernel_rfl
theorem ll15 : LoopsOk T Y env15 an lv15 (finO T true ps15 (.ty .b) Try.f15.results.toList) c15 := loopsOk_of (by rw [lo15]; exact trivial)
theorem k15 : FnOk Try.prog 15 i15 :=
  fn_ok (T := T) (Y := Y) (an := an) (env := env15) (fr := true) (lenv := lv15) mixed tok.1 tok.2 (envCons k19 (envCons k23 (envCons k21 (envCons k43 (envCons k26 (envCons k45 (envCons k28 (envNil)))))))) (fn := Try.f15) (c := c15) (by kernel_rfl) (by kernel_rfl) (by kernel_rfl) ll15 (fun a => congrFun e15 a)
end Go.Proofs.Ytkklehfcadkikaa.EVT
