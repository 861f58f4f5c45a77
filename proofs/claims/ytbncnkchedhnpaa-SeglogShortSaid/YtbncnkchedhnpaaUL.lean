/- What functions compute, as printed (U, part L). -/
import Derived.Test.YtbncnkchedhnpaaUR
set_option linter.unusedVariables false
set_option maxRecDepth 100000
set_option maxHeartbeats 0
namespace Go.Proofs.Ytbncnkchedhnpaa.EVT
open Go Go.EV
/-! ### broker/brokerlaw34.do -/
noncomputable def c21 : Code := Try.f21.body.getD .skip
noncomputable def env21 : Env := mkEnv [(10, i10), (38, i38), (14, i14), (25, i25), (15, i15), (11, i11), (39, i39), (26, i26), (40, i40), (16, i16), (23, i23)]
abbrev ps21 : List PSh := [.ow (.ob (.ag (.pr (.ty (.i .i64)) (.ow 3 (.st (.pr (.i .i64) (.pr (.i .i64) (.sl .u8)))))))), .d (.st (.pr (.i .i64) (.sl (.st (.pr (.i .i64) (.pr (.i .i64) (.sl .u8))))))), .d (.st (.pr (.i .u8) (.pr (.i .i64) (.pr (.i .i64) (.st (.pr (.i .i64) (.pr (.i .i64) (.pr .s .s))))))))]
abbrev D21 : Type := pairD (.tup (.pr (.opt (.ag (.pr (.ty (.i .i64)) (.ow 3 (.st (.pr (.i .i64) (.pr (.i .i64) (.sl .u8)))))))) (.pr (.ty (.st (.pr (.i .i64) (.sl (.st (.pr (.i .i64) (.pr (.i .i64) (.sl .u8)))))))) (.ty .b)))) (osOf ps21)
noncomputable def lv21 : Nat → Option (LI D21) := fun _ => none
noncomputable def g21 (a0_0 : Int) (a0_1 : List (Int × Int × List UInt8)) (a1_0 : Int) (a1_1 : List (Int × Int × List UInt8)) (a2_0 : Int) (a2_1 : Int) (a2_2 : Int) (a2_3_0 : Int) (a2_3_1 : Int) (a2_3_2 : List UInt8) (a2_3_3 : List UInt8) : Option ((Option (Int × List (Int × Int × List UInt8))) × (Int × List (Int × Int × List UInt8)) × Bool) :=
  cond (a2_0.tmod 6 == 0)
    (Option.bind (g10 a0_0 a0_1 a2_3_1 a2_3_2 a2_3_3) fun v1 =>
    Option.bind (g38 a1_0 a1_1 a2_3_1 a2_3_2 a2_3_3) fun v2 =>
    cond (v1.1.1 == v2.2.1)
      (some ((some v1.2, v2.1, v1.1.2 == v2.2.2)))
      (some ((some v1.2, v2.1, false))))
    (cond (a2_0.tmod 6 == 1)
      (Option.bind (g10 a0_0 a0_1 a2_3_1 a2_3_2 a2_3_3) fun v3 =>
      Option.bind (g38 a1_0 a1_1 a2_3_1 a2_3_2 a2_3_3) fun v4 =>
      cond (v3.1.1 == v4.2.1)
        (some ((some v3.2, v4.1, v3.1.2 == v4.2.2)))
        (some ((some v3.2, v4.1, false))))
      (cond (a2_0.tmod 6 == 2)
        (Option.bind (g14 a0_0 a0_1 a2_1 a2_2) fun v5 =>
        Option.bind (g25 a1_0 a1_1 a2_1 a2_2) fun v6 =>
        Option.bind (g15 v5.1.1 v6.1) fun v7 =>
        cond (v7)
          (some ((some v5.2, (a1_0, a1_1), v5.1.2 == v6.2)))
          (some ((some v5.2, (a1_0, a1_1), false))))
        (cond (a2_0.tmod 6 == 3)
          (Option.bind (g11 a0_0 a0_1 a2_1) fun v8 =>
          Option.bind (g39 a1_0 a1_1 a2_1) fun v9 =>
          some ((some v8.2, v9.1, v8.1 == v9.2)))
          (cond (a2_0.tmod 6 == 4)
            (Option.bind (g26 a0_0 a0_1 a2_1) fun v10 =>
            Option.bind (g40 a1_0 a1_1 a2_1) fun v11 =>
            some ((some v10.2, v11.1, v10.1 == v11.2)))
            (Option.bind (g16 a0_0 a0_1) fun v12 =>
            Option.bind (g23 a1_0 v12.1) fun v13 =>
            Option.elim (v13.1)
              (cond (v13.2 == 0)
                (some ((none, (a1_0, a1_1), false)))
                (some ((none, (a1_0, a1_1), false))))
              fun y14 => cond (v13.2 == 0)
                (some ((some y14, (a1_0, a1_1), true)))
                (some ((some y14, (a1_0, a1_1), false))))))))
noncomputable def i21 : FI := ⟨ps21, .tup (.pr (.opt (.ag (.pr (.ty (.i .i64)) (.ow 3 (.st (.pr (.i .i64) (.pr (.i .i64) (.sl .u8)))))))) (.pr (.ty (.st (.pr (.i .i64) (.sl (.st (.pr (.i .i64) (.pr (.i .i64) (.sl .u8)))))))) (.ty .b))), fun ((a0_0, a0_1), (a1_0, a1_1), (a2_0, a2_1, a2_2, (a2_3_0, a2_3_1, a2_3_2, a2_3_3))) => g21 a0_0 a0_1 a1_0 a1_1 a2_0 a2_1 a2_2 a2_3_0 a2_3_1 a2_3_2 a2_3_3⟩
theorem e21 : (fun a => i21.G a) = fnEval T Y env21 an i21.ps i21.rs false Try.f21.results.toList lv21 c21 := by kernel_rfl
theorem lo21 : loopsOf c21 = [] := by kernel_rfl
theorem ll21 : LoopsOk T Y env21 an lv21 (finO T false ps21 (.tup (.pr (.opt (.ag (.pr (.ty (.i .i64)) (.ow 3 (.st (.pr (.i .i64) (.pr (.i .i64) (.sl .u8)))))))) (.pr (.ty (.st (.pr (.i .i64) (.sl (.st (.pr (.i .i64) (.pr (.i .i64) (.sl .u8)))))))) (.ty .b)))) Try.f21.results.toList) c21 := loopsOk_of (by rw [lo21]; exact trivial)
theorem k21 : FnOk Try.prog 21 i21 :=
  fn_ok (T := T) (Y := Y) (an := an) (env := env21) (fr := false) (lenv := lv21) mixed tok.1 tok.2 (envCons k10 (envCons k38 (envCons k14 (envCons k25 (envCons k15 (envCons k11 (envCons k39 (envCons k26 (envCons k40 (envCons k16 (envCons k23 (envNil)))))))))))) (fn := Try.f21) (c := c21) (by kernel_rfl) (by kernel_rfl) (by kernel_rfl) ll21 (fun a => congrFun e21 a)
/-! ### broker/brokerlaw34.same -/
noncomputable def c22 : Code := Try.f22.body.getD .skip
noncomputable def env22 : Env := mkEnv [(12, i12), (41, i41), (13, i13), (42, i42), (16, i16), (43, i43)]
abbrev ps22 : List PSh := [.io (.ob (.ag (.pr (.ty (.i .i64)) (.ow 3 (.st (.pr (.i .i64) (.pr (.i .i64) (.sl .u8)))))))) (.ob (.ag (.pr (.ty (.i .i64)) (.ow 3 (.st (.pr (.i .i64) (.pr (.i .i64) (.sl .u8)))))))), .d (.st (.pr (.i .i64) (.sl (.st (.pr (.i .i64) (.pr (.i .i64) (.sl .u8)))))))]
abbrev D22 : Type := pairD (.ty .b) (osOf ps22)
noncomputable def lv22 : Nat → Option (LI D22) := fun _ => none
noncomputable def g22 (a0_0 : Int) (a0_1 : List (Int × Int × List UInt8)) (a1_0 : Int) (a1_1 : List (Int × Int × List UInt8)) : Option (Bool × Int × List (Int × Int × List UInt8)) :=
  Option.bind (g12 a0_0 a0_1) fun v1 =>
  Option.bind (g41 a1_0 a1_1) fun v2 =>
  cond (v1.1 == v2)
    (Option.bind (g13 v1.2.1 v1.2.2) fun v3 =>
    Option.bind (g42 a1_0 a1_1) fun v4 =>
    cond (v3.1 == v4)
      (Option.bind (g16 v3.2.1 v3.2.2) fun v5 =>
      Option.bind (g43 v5.1 a1_1) fun v6 =>
      some ((v6, v5.2)))
      (some ((false, v3.2))))
    (some ((false, v1.2)))
noncomputable def i22 : FI := ⟨ps22, .ty .b, fun ((a0_0, a0_1), (a1_0, a1_1)) => g22 a0_0 a0_1 a1_0 a1_1⟩
theorem e22 : (fun a => i22.G a) = fnEval T Y env22 an i22.ps i22.rs true Try.f22.results.toList lv22 c22 := by kernel_rfl
theorem lo22 : loopsOf c22 = [] := by kernel_rfl
theorem ll22 : LoopsOk T Y env22 an lv22 (finO T true ps22 (.ty .b) Try.f22.results.toList) c22 := loopsOk_of (by rw [lo22]; exact trivial)
theorem k22 : FnOk Try.prog 22 i22 :=
  fn_ok (T := T) (Y := Y) (an := an) (env := env22) (fr := true) (lenv := lv22) mixed tok.1 tok.2 (envCons k12 (envCons k41 (envCons k13 (envCons k42 (envCons k16 (envCons k43 (envNil))))))) (fn := Try.f22) (c := c22) (by kernel_rfl) (by kernel_rfl) (by kernel_rfl) ll22 (fun a => congrFun e22 a)
/-! ### broker/brokerlaw34.SeglogReads -/
noncomputable def c3 : Code := Try.f3.body.getD .skip
noncomputable def env3 : Env := mkEnv [(7, i7), (8, i8), (9, i9), (10, i10), (11, i11), (12, i12), (13, i13), (14, i14), (15, i15)]
abbrev ps3 : List PSh := [.d (.i .i64), .d (.sl (.st (.pr (.i .u8) (.pr (.i .i64) (.pr (.i .i64) (.st (.pr (.i .i64) (.pr (.i .i64) (.pr .s .s))))))))), .d (.i .i64)]
abbrev D3 : Type := pairD (.ty .b) (osOf ps3)
def ns3_1 : NS := { slots := [(7, .pt 4131 []), (9, .hw 82), (15, .ty (.i .i64)), (16, .ty (.i .i64))], roots := [(4208, .ar 3 (.st (.pr (.i .i64) (.pr (.i .i64) (.sl .u8))))), (82, .ar 4 (.st (.pr (.i .i64) (.pr (.i .i64) (.pr .s .s))))), (4131, .ag (.pr (.ty (.i .i64)) (.hw 4208)))], ad := [{ t := 7, path := [(1, 1)], g := 4208, d := 3, τ := (.st (.pr (.i .i64) (.pr (.i .i64) (.sl .u8))) : Ty) }] }
def ex3_1 : List (Nat × NS) := [(2, { slots := [(7, .pt 4131 []), (15, .ty (.i .i64))], roots := [(4131, .ag (.pr (.ty (.i .i64)) (.hw 4208))), (4208, .ar 3 (.st (.pr (.i .i64) (.pr (.i .i64) (.sl .u8)))))] })]
noncomputable def st3_1 (ih : ((Int × Int) × ((List (Int × Int × List UInt8)) × (List (Int × Int × List UInt8 × List UInt8)) × Int × Unit)) → Option (((Int) × ((Int × Unit) × List (Int × Int × List UInt8))) ⊕ Bool)) : ((Int × Int) × ((List (Int × Int × List UInt8)) × (List (Int × Int × List UInt8 × List UInt8)) × Int × Unit)) → Option (((Int) × ((Int × Unit) × List (Int × Int × List UInt8))) ⊕ Bool) := fun ((t15, t16), (r4208, r82, (r4131_0, ()))) =>
  cond (decide (t16 ≤ (↑r82.length : Int)))
    (Option.bind (g14 r4131_0 r4208 t16 (↑r82.length : Int)) fun v1 =>
    cond (v1.1.2 != 0)
      (some (Sum.inr false))
      (cond (decide (0 ≤ t16) && decide (t16 ≤ (↑r82.length : Int)) && true)
        (Option.bind (g15 v1.1.1 (List.take (r82.length - t16.toNat) (List.drop t16.toNat r82))) fun v2 =>
        cond (!v2)
          (some (Sum.inr false))
          (ih ((t15, IntKind.i64.wrap (t16 + 1)), v1.2.2, r82, v1.2.1, ())))
        (none)))
    (some (Sum.inl (t15, (r4131_0, ()), r4208)))
noncomputable def h3_1 : ((Int × Int) × ((List (Int × Int × List UInt8)) × (List (Int × Int × List UInt8 × List UInt8)) × Int × Unit)) → Option (((Int) × ((Int × Unit) × List (Int × Int × List UInt8))) ⊕ Bool) := loopN st3_1 fuel
noncomputable def l3_1 : LI D3 := ⟨ns3_1, ex3_1, h3_1⟩
def ns3_0 : NS := { slots := [(7, .pt 4131 []), (9, .hw 82), (1, .ty (.sl (.st (.pr (.i .u8) (.pr (.i .i64) (.pr (.i .i64) (.st (.pr (.i .i64) (.pr (.i .i64) (.pr .s .s)))))))))), (2, .ty (.i .i64)), (10, .ty (.i .i64))], roots := [(8227, .ar 3 (.st (.pr (.i .i64) (.pr (.i .i64) (.sl .u8))))), (82, .ar 4 (.st (.pr (.i .i64) (.pr (.i .i64) (.pr .s .s))))), (4131, .ag (.pr (.ty (.i .i64)) (.hw 8227)))], ad := [{ t := 7, path := [(1, 1)], g := 8227, d := 3, τ := (.st (.pr (.i .i64) (.pr (.i .i64) (.sl .u8))) : Ty) }, { t := 9, path := [], g := 82, d := 4, τ := (.st (.pr (.i .i64) (.pr (.i .i64) (.pr .s .s))) : Ty) }] }
def ex3_0 : List (Nat × NS) := [(0, { slots := [(7, .pt 4131 []), (9, .hw 82), (2, .ty (.i .i64))], roots := [(82, .ar 4 (.st (.pr (.i .i64) (.pr (.i .i64) (.pr .s .s))))), (4131, .ag (.pr (.ty (.i .i64)) (.hw 8227))), (8227, .ar 3 (.st (.pr (.i .i64) (.pr (.i .i64) (.sl .u8)))))] })]
noncomputable def st3_0 (ih : (((List (Int × Int × Int × Int × Int × List UInt8 × List UInt8)) × Int × Int) × ((List (Int × Int × List UInt8)) × (List (Int × Int × List UInt8 × List UInt8)) × Int × Unit)) → Option (((Int) × ((List (Int × Int × List UInt8 × List UInt8)) × (Int × Unit) × List (Int × Int × List UInt8))) ⊕ Bool)) : (((List (Int × Int × Int × Int × Int × List UInt8 × List UInt8)) × Int × Int) × ((List (Int × Int × List UInt8)) × (List (Int × Int × List UInt8 × List UInt8)) × Int × Unit)) → Option (((Int) × ((List (Int × Int × List UInt8 × List UInt8)) × (Int × Unit) × List (Int × Int × List UInt8))) ⊕ Bool) := fun ((t1, t2, t10), (r8227, r82, (r4131_0, ()))) =>
  cond (decide (t10 < (↑t1.length : Int)))
    (cond (decide (0 ≤ t10) && decide (t10 < (↑t1.length : Int)))
      (Option.bind (g10 r4131_0 r8227 (t1.getD t10.toNat (0, 0, 0, 0, 0, [], [])).2.2.2.2.1 (t1.getD t10.toNat (0, 0, 0, 0, 0, [], [])).2.2.2.2.2.1 (t1.getD t10.toNat (0, 0, 0, 0, 0, [], [])).2.2.2.2.2.2) fun v1 =>
      cond (v1.1.2 == 0)
        (cond (v1.1.1 != (↑r82.length : Int))
          (some (Sum.inr false))
          (cond (decide (r82.length + 1 ≤ 2147483647))
            (ih ((t1, t2, IntKind.i64.wrap (t10 + 1)), v1.2.2, r82 ++ [(v1.1.1, (t1.getD t10.toNat (0, 0, 0, 0, 0, [], [])).2.2.2.2)], v1.2.1, ()))
            (none)))
        (ih ((t1, t2, IntKind.i64.wrap (t10 + 1)), v1.2.2, r82, v1.2.1, ())))
      (none))
    (some (Sum.inl (t2, r82, (r4131_0, ()), r8227)))
noncomputable def h3_0 : (((List (Int × Int × Int × Int × Int × List UInt8 × List UInt8)) × Int × Int) × ((List (Int × Int × List UInt8)) × (List (Int × Int × List UInt8 × List UInt8)) × Int × Unit)) → Option (((Int) × ((List (Int × Int × List UInt8 × List UInt8)) × (Int × Unit) × List (Int × Int × List UInt8))) ⊕ Bool) := loopN st3_0 fuel
noncomputable def l3_0 : LI D3 := ⟨ns3_0, ex3_0, h3_0⟩
noncomputable def lv3 : Nat → Option (LI D3) := fun q => if q = 8 then some l3_0 else (fun q => if q = 21 then some l3_1 else (fun _ => none) q) q
noncomputable def g3 (a0 : Int) (a1 : List (Int × Int × Int × Int × Int × List UInt8 × List UInt8)) (a2 : Int) : Option (Bool) :=
  Option.bind (g7 a1) fun v1 =>
  cond (!v1)
    (Option.bind (g8) fun v2 =>
    some (v2))
    (cond (decide (a0 < 64))
      (Option.bind (g8) fun v3 =>
      some (v3))
      (cond (decide (a0 > 65536))
        (Option.bind (g8) fun v4 =>
        some (v4))
        (Option.bind (g9 a0) fun v5 =>
        Option.elim (v5.1)
          (cond (v5.2 != 0)
            (some (false))
            (some (false)))
          fun y6 => cond (v5.2 != 0)
            (some (false))
            (Option.bind (h3_0 ((a1, a2, 0), y6.2, [], y6.1, ())) fun v7 =>
            match v7 with
            | .inl x8 =>
              Option.bind (g11 x8.2.2.1.1 x8.2.2.2 x8.1) fun v9 =>
              Option.bind (g12 v9.2.1 v9.2.2) fun v10 =>
              cond (v9.1 != v10.1)
                (some (false))
                (cond (decide (v10.1 < 0))
                  (some (false))
                  (cond (decide (v10.1 > (↑(List.length x8.2.1) : Int)))
                    (some (false))
                    (cond (decide (v10.1 > 0))
                      (cond (decide (v10.1 > x8.1))
                        (some (false))
                        (Option.bind (g13 v10.2.1 v10.2.2) fun v11 =>
                        cond (v11.1 != (↑(List.length x8.2.1) : Int))
                          (some (false))
                          (Option.bind (h3_1 ((v10.1, v10.1), v11.2.2, x8.2.1, v11.2.1, ())) fun v12 =>
                          match v12 with
                          | .inl x13 =>
                            Option.bind (g14 x13.2.1.1 x13.2.2 (IntKind.i64.wrap (x13.1 - 1)) 1) fun v14 =>
                            cond (v14.1.2 == 1)
                              (Option.bind (g8) fun v15 =>
                              some (v15))
                              (some (false))
                          | .inr x13 =>
                            some (x13))))
                      (Option.bind (g13 v10.2.1 v10.2.2) fun v16 =>
                      cond (v16.1 != (↑(List.length x8.2.1) : Int))
                        (some (false))
                        (Option.bind (h3_1 ((v10.1, v10.1), v16.2.2, x8.2.1, v16.2.1, ())) fun v17 =>
                        match v17 with
                        | .inl x18 =>
                          Option.bind (g14 x18.2.1.1 x18.2.2 (IntKind.i64.wrap (x18.1 - 1)) 1) fun v19 =>
                          cond (v19.1.2 == 1)
                            (Option.bind (g8) fun v20 =>
                            some (v20))
                            (some (false))
                        | .inr x18 =>
                          some (x18))))))
            | .inr x8 =>
              some (x8)))))
noncomputable def i3 : FI := ⟨ps3, .ty .b, fun (a0, a1, a2) => g3 a0 a1 a2⟩
theorem s3_1 : st3_1 = stepEval T Y env3 an lv3 (finO T true ps3 (.ty .b) Try.f3.results.toList) (loopAt c3 1) ns3_1 ex3_1 := by kernel_rfl
theorem s3_0 : st3_0 = stepEval T Y env3 an lv3 (finO T true ps3 (.ty .b) Try.f3.results.toList) (loopAt c3 0) ns3_0 ex3_0 := by kernel_rfl
theorem e3 : (fun a => i3.G a) = fnEval T Y env3 an i3.ps i3.rs true Try.f3.results.toList lv3 c3 := by kernel_rfl
theorem lo3 : loopsOf c3 = [loopAt c3 0, loopAt c3 1] := by kernel_rfl
theorem ll3 : LoopsOk T Y env3 an lv3 (finO T true ps3 (.ty .b) Try.f3.results.toList) c3 := loopsOk_of (by rw [lo3]; exact ⟨loop1 (li := l3_0) (by kernel_rfl) (by kernel_rfl) s3_0, ⟨loop1 (li := l3_1) (by kernel_rfl) (by kernel_rfl) s3_1, trivial⟩⟩)
theorem k3 : FnOk Try.prog 3 i3 :=
  fn_ok (T := T) (Y := Y) (an := an) (env := env3) (fr := true) (lenv := lv3) mixed tok.1 tok.2 (envCons k7 (envCons k8 (envCons k9 (envCons k10 (envCons k11 (envCons k12 (envCons k13 (envCons k14 (envCons k15 (envNil)))))))))) (fn := Try.f3) (c := c3) (by kernel_rfl) (by kernel_rfl) (by kernel_rfl) ll3 (fun a => congrFun e3 a)
/-! ### broker/brokerlaw34.SeglogShort -/
noncomputable def c4 : Code := Try.f4.body.getD .skip
noncomputable def env4 : Env := mkEnv [(7, i7), (8, i8), (9, i9), (10, i10), (16, i16), (17, i17), (18, i18), (19, i19)]
abbrev ps4 : List PSh := [.d (.i .i64), .d (.sl (.st (.pr (.i .u8) (.pr (.i .i64) (.pr (.i .i64) (.st (.pr (.i .i64) (.pr (.i .i64) (.pr .s .s)))))))))]
abbrev D4 : Type := pairD (.ty .b) (osOf ps4)
def ns4_1 : NS := { slots := [(0, .ty (.i .i64)), (8, .ty (.sl (.st (.pr (.i .i64) (.pr (.i .i64) (.sl .u8)))))), (9, .ty (.i .i64))], roots := [] }
def ex4_1 : List (Nat × NS) := [(2, { slots := [(8, .ty (.sl (.st (.pr (.i .i64) (.pr (.i .i64) (.sl .u8))))))], roots := [] })]
noncomputable def st4_1 (ih : ((Int × (List (Int × Int × List UInt8)) × Int) × (Unit)) → Option (((List (Int × Int × List UInt8)) × (Unit)) ⊕ Bool)) : ((Int × (List (Int × Int × List UInt8)) × Int) × (Unit)) → Option (((List (Int × Int × List UInt8)) × (Unit)) ⊕ Bool) := fun ((t0, t8, t9), ()) =>
  cond (decide (t9 < (↑t8.length : Int)))
    (cond (decide (0 ≤ t9) && decide (t9 < (↑t8.length : Int)))
      (Option.bind (g17 (t8.getD t9.toNat (0, 0, [])).1 (t8.getD t9.toNat (0, 0, [])).2.1 (t8.getD t9.toNat (0, 0, [])).2.2) fun v1 =>
      cond (v1 != 0)
        (some (Sum.inr false))
        (cond (decide (0 ≤ t9) && decide (t9 < (↑t8.length : Int)))
          (cond (decide ((↑(List.length (t8.getD t9.toNat (0, 0, [])).2.2) : Int) > t0))
            (cond (decide (0 ≤ t9) && decide (t9 < (↑t8.length : Int)))
              (cond (decide (0 ≤ t9) && decide (t9 < (↑t8.length : Int)))
                (cond (IntKind.i64.wrap ((t8.getD t9.toNat (0, 0, [])).2.1 - (t8.getD t9.toNat (0, 0, [])).1) != 1)
                  (some (Sum.inr false))
                  (cond (decide (t9 > 0))
                    (cond (decide (0 ≤ t9) && decide (t9 < (↑t8.length : Int)))
                      (Option.bind (g18 (t8.getD t9.toNat (0, 0, [])).1 (t8.getD t9.toNat (0, 0, [])).2.1 (t8.getD t9.toNat (0, 0, [])).2.2) fun v2 =>
                      cond (decide (0 ≤ t9) && decide (t9 < (↑t8.length : Int)))
                        (cond (decide (0 ≤ IntKind.i64.wrap (t9 - 1)) && decide (IntKind.i64.wrap (t9 - 1) < (↑t8.length : Int)))
                          (cond ((t8.getD t9.toNat (0, 0, [])).1 != (t8.getD (IntKind.i64.wrap (t9 - 1)).toNat (0, 0, [])).2.1)
                            (some (Sum.inr false))
                            (cond ((↑(List.length v2) : Int) == 0)
                              (some (Sum.inr false))
                              (cond (decide (0 ≤ IntKind.i64.wrap (t9 - 1)) && decide (IntKind.i64.wrap (t9 - 1) < (↑t8.length : Int)))
                                (cond (decide (0 ≤ 0) && decide (0 < (↑(List.length v2) : Int)))
                                  (Option.bind (g19 (List.getD v2 (Int.toNat 0) (0, 0, [], [])).1 (List.getD v2 (Int.toNat 0) (0, 0, [], [])).2.1 (List.getD v2 (Int.toNat 0) (0, 0, [], [])).2.2.1 (List.getD v2 (Int.toNat 0) (0, 0, [], [])).2.2.2) fun v3 =>
                                  cond (decide (IntKind.i64.wrap ((↑(List.length (t8.getD (IntKind.i64.wrap (t9 - 1)).toNat (0, 0, [])).2.2) : Int) + v3) ≤ t0))
                                    (some (Sum.inr false))
                                    (ih ((t0, t8, IntKind.i64.wrap (t9 + 1)), ())))
                                  (none))
                                (none))))
                          (none))
                        (none))
                      (none))
                    (ih ((t0, t8, IntKind.i64.wrap (t9 + 1)), ()))))
                (none))
              (none))
            (cond (decide (t9 > 0))
              (cond (decide (0 ≤ t9) && decide (t9 < (↑t8.length : Int)))
                (Option.bind (g18 (t8.getD t9.toNat (0, 0, [])).1 (t8.getD t9.toNat (0, 0, [])).2.1 (t8.getD t9.toNat (0, 0, [])).2.2) fun v4 =>
                cond (decide (0 ≤ t9) && decide (t9 < (↑t8.length : Int)))
                  (cond (decide (0 ≤ IntKind.i64.wrap (t9 - 1)) && decide (IntKind.i64.wrap (t9 - 1) < (↑t8.length : Int)))
                    (cond ((t8.getD t9.toNat (0, 0, [])).1 != (t8.getD (IntKind.i64.wrap (t9 - 1)).toNat (0, 0, [])).2.1)
                      (some (Sum.inr false))
                      (cond ((↑(List.length v4) : Int) == 0)
                        (some (Sum.inr false))
                        (cond (decide (0 ≤ IntKind.i64.wrap (t9 - 1)) && decide (IntKind.i64.wrap (t9 - 1) < (↑t8.length : Int)))
                          (cond (decide (0 ≤ 0) && decide (0 < (↑(List.length v4) : Int)))
                            (Option.bind (g19 (List.getD v4 (Int.toNat 0) (0, 0, [], [])).1 (List.getD v4 (Int.toNat 0) (0, 0, [], [])).2.1 (List.getD v4 (Int.toNat 0) (0, 0, [], [])).2.2.1 (List.getD v4 (Int.toNat 0) (0, 0, [], [])).2.2.2) fun v5 =>
                            cond (decide (IntKind.i64.wrap ((↑(List.length (t8.getD (IntKind.i64.wrap (t9 - 1)).toNat (0, 0, [])).2.2) : Int) + v5) ≤ t0))
                              (some (Sum.inr false))
                              (ih ((t0, t8, IntKind.i64.wrap (t9 + 1)), ())))
                            (none))
                          (none))))
                    (none))
                  (none))
                (none))
              (ih ((t0, t8, IntKind.i64.wrap (t9 + 1)), ()))))
          (none)))
      (none))
    (some (Sum.inl (t8, ())))
noncomputable def h4_1 : ((Int × (List (Int × Int × List UInt8)) × Int) × (Unit)) → Option (((List (Int × Int × List UInt8)) × (Unit)) ⊕ Bool) := loopN st4_1 fuel
noncomputable def l4_1 : LI D4 := ⟨ns4_1, ex4_1, h4_1⟩
def ns4_0 : NS := { slots := [(5, .pt 4121 []), (0, .ty (.i .i64)), (1, .ty (.sl (.st (.pr (.i .u8) (.pr (.i .i64) (.pr (.i .i64) (.st (.pr (.i .i64) (.pr (.i .i64) (.pr .s .s)))))))))), (7, .ty (.i .i64))], roots := [(8217, .ar 3 (.st (.pr (.i .i64) (.pr (.i .i64) (.sl .u8))))), (4121, .ag (.pr (.ty (.i .i64)) (.hw 8217)))], ad := [{ t := 5, path := [(1, 1)], g := 8217, d := 3, τ := (.st (.pr (.i .i64) (.pr (.i .i64) (.sl .u8))) : Ty) }] }
def ex4_0 : List (Nat × NS) := [(0, { slots := [(5, .pt 4121 []), (0, .ty (.i .i64))], roots := [(4121, .ag (.pr (.ty (.i .i64)) (.hw 8217))), (8217, .ar 3 (.st (.pr (.i .i64) (.pr (.i .i64) (.sl .u8)))))] })]
noncomputable def st4_0 (ih : ((Int × (List (Int × Int × Int × Int × Int × List UInt8 × List UInt8)) × Int) × ((List (Int × Int × List UInt8)) × Int × Unit)) → Option (((Int) × ((Int × Unit) × List (Int × Int × List UInt8))) ⊕ Bool)) : ((Int × (List (Int × Int × Int × Int × Int × List UInt8 × List UInt8)) × Int) × ((List (Int × Int × List UInt8)) × Int × Unit)) → Option (((Int) × ((Int × Unit) × List (Int × Int × List UInt8))) ⊕ Bool) := fun ((t0, t1, t7), (r8217, (r4121_0, ()))) =>
  cond (decide (t7 < (↑t1.length : Int)))
    (cond (decide (0 ≤ t7) && decide (t7 < (↑t1.length : Int)))
      (cond (decide (0 ≤ t7) && decide (t7 < (↑t1.length : Int)))
        (cond (decide (0 ≤ t7) && decide (t7 < (↑t1.length : Int)))
          (Option.bind (g10 r4121_0 r8217 (t1.getD t7.toNat (0, 0, 0, 0, 0, [], [])).2.2.2.2.1 (t1.getD t7.toNat (0, 0, 0, 0, 0, [], [])).2.2.2.2.2.1 (t1.getD t7.toNat (0, 0, 0, 0, 0, [], [])).2.2.2.2.2.2) fun v1 =>
          ih ((t0, t1, IntKind.i64.wrap (t7 + 1)), v1.2.2, v1.2.1, ()))
          (none))
        (none))
      (none))
    (some (Sum.inl (t0, (r4121_0, ()), r8217)))
noncomputable def h4_0 : ((Int × (List (Int × Int × Int × Int × Int × List UInt8 × List UInt8)) × Int) × ((List (Int × Int × List UInt8)) × Int × Unit)) → Option (((Int) × ((Int × Unit) × List (Int × Int × List UInt8))) ⊕ Bool) := loopN st4_0 fuel
noncomputable def l4_0 : LI D4 := ⟨ns4_0, ex4_0, h4_0⟩
noncomputable def lv4 : Nat → Option (LI D4) := fun q => if q = 7 then some l4_0 else (fun q => if q = 12 then some l4_1 else (fun _ => none) q) q
noncomputable def g4 (a0 : Int) (a1 : List (Int × Int × Int × Int × Int × List UInt8 × List UInt8)) : Option (Bool) :=
  Option.bind (g7 a1) fun v1 =>
  cond (!v1)
    (Option.bind (g8) fun v2 =>
    some (v2))
    (cond (decide (a0 < 64))
      (Option.bind (g8) fun v3 =>
      some (v3))
      (cond (decide (a0 > 65536))
        (Option.bind (g8) fun v4 =>
        some (v4))
        (Option.bind (g9 a0) fun v5 =>
        Option.elim (v5.1)
          (cond (v5.2 != 0)
            (some (false))
            (some (false)))
          fun y6 => cond (v5.2 != 0)
            (some (false))
            (Option.bind (h4_0 ((a0, a1, 0), y6.2, y6.1, ())) fun v7 =>
            match v7 with
            | .inl x8 =>
              Option.bind (g16 x8.2.1.1 x8.2.2) fun v9 =>
              Option.bind (h4_1 ((x8.1, v9.1, 0), ())) fun v10 =>
              match v10 with
              | .inl x11 =>
                cond (decide ((↑(List.length x11.1) : Int) > 0))
                  (cond (decide (0 ≤ 0) && decide (0 < (↑(List.length x11.1) : Int)))
                    (cond ((List.getD x11.1 (Int.toNat 0) (0, 0, [])).1 == 0)
                      (Option.bind (g8) fun v12 =>
                      some (v12))
                      (some (false)))
                    (none))
                  (some (false))
              | .inr x11 =>
                some (x11)
            | .inr x8 =>
              some (x8)))))
noncomputable def i4 : FI := ⟨ps4, .ty .b, fun (a0, a1) => g4 a0 a1⟩
theorem s4_1 : st4_1 = stepEval T Y env4 an lv4 (finO T true ps4 (.ty .b) Try.f4.results.toList) (loopAt c4 1) ns4_1 ex4_1 := by kernel_rfl
theorem s4_0 : st4_0 = stepEval T Y env4 an lv4 (finO T true ps4 (.ty .b) Try.f4.results.toList) (loopAt c4 0) ns4_0 ex4_0 := by kernel_rfl
theorem e4 : (fun a => i4.G a) = fnEval T Y env4 an i4.ps i4.rs true Try.f4.results.toList lv4 c4 := by kernel_rfl
theorem lo4 : loopsOf c4 = [loopAt c4 0, loopAt c4 1] := by kernel_rfl
theorem ll4 : LoopsOk T Y env4 an lv4 (finO T true ps4 (.ty .b) Try.f4.results.toList) c4 := loopsOk_of (by rw [lo4]; exact ⟨loop1 (li := l4_0) (by kernel_rfl) (by kernel_rfl) s4_0, ⟨loop1 (li := l4_1) (by kernel_rfl) (by kernel_rfl) s4_1, trivial⟩⟩)
theorem k4 : FnOk Try.prog 4 i4 :=
  fn_ok (T := T) (Y := Y) (an := an) (env := env4) (fr := true) (lenv := lv4) mixed tok.1 tok.2 (envCons k7 (envCons k8 (envCons k9 (envCons k10 (envCons k16 (envCons k17 (envCons k18 (envCons k19 (envNil))))))))) (fn := Try.f4) (c := c4) (by kernel_rfl) (by kernel_rfl) (by kernel_rfl) ll4 (fun a => congrFun e4 a)
/-! ### broker/brokerlaw34.SeglogPlays -/
noncomputable def c5 : Code := Try.f5.body.getD .skip
noncomputable def env5 : Env := mkEnv [(7, i7), (8, i8), (9, i9), (20, i20), (21, i21), (22, i22)]
abbrev ps5 : List PSh := [.d (.i .i64), .d (.sl (.st (.pr (.i .u8) (.pr (.i .i64) (.pr (.i .i64) (.st (.pr (.i .i64) (.pr (.i .i64) (.pr .s .s)))))))))]
abbrev D5 : Type := pairD (.ty .b) (osOf ps5)
def ns5_0 : NS := { slots := [(5, .pt 4115 []), (7, .pt 7 []), (1, .ty (.sl (.st (.pr (.i .u8) (.pr (.i .i64) (.pr (.i .i64) (.st (.pr (.i .i64) (.pr (.i .i64) (.pr .s .s)))))))))), (9, .ty (.i .i64))], roots := [(8211, .ar 3 (.st (.pr (.i .i64) (.pr (.i .i64) (.sl .u8))))), (7, .ty (.st (.pr (.i .i64) (.sl (.st (.pr (.i .i64) (.pr (.i .i64) (.sl .u8)))))))), (4115, .ag (.pr (.ty (.i .i64)) (.hw 8211)))], ad := [{ t := 5, path := [], g := 4115, d := 0, τ := (.b : Ty) }, { t := 5, path := [(1, 1)], g := 8211, d := 3, τ := (.st (.pr (.i .i64) (.pr (.i .i64) (.sl .u8))) : Ty) }] }
def ex5_0 : List (Nat × NS) := [(0, { slots := [], roots := [] })]
noncomputable def st5_0 (ih : (((List (Int × Int × Int × Int × Int × List UInt8 × List UInt8)) × Int) × ((List (Int × Int × List UInt8)) × (Int × List (Int × Int × List UInt8)) × Int × Unit)) → Option (((Unit) × (Unit)) ⊕ Bool)) : (((List (Int × Int × Int × Int × Int × List UInt8 × List UInt8)) × Int) × ((List (Int × Int × List UInt8)) × (Int × List (Int × Int × List UInt8)) × Int × Unit)) → Option (((Unit) × (Unit)) ⊕ Bool) := fun ((t1, t9), (r8211, (r7_0, r7_1), (r4115_0, ()))) =>
  cond (decide (t9 < (↑t1.length : Int)))
    (cond (decide (0 ≤ t9) && decide (t9 < (↑t1.length : Int)))
      (Option.bind (g21 r4115_0 r8211 r7_0 r7_1 (t1.getD t9.toNat (0, 0, 0, 0, 0, [], [])).1 (t1.getD t9.toNat (0, 0, 0, 0, 0, [], [])).2.1 (t1.getD t9.toNat (0, 0, 0, 0, 0, [], [])).2.2.1 (t1.getD t9.toNat (0, 0, 0, 0, 0, [], [])).2.2.2.1 (t1.getD t9.toNat (0, 0, 0, 0, 0, [], [])).2.2.2.2.1 (t1.getD t9.toNat (0, 0, 0, 0, 0, [], [])).2.2.2.2.2.1 (t1.getD t9.toNat (0, 0, 0, 0, 0, [], [])).2.2.2.2.2.2) fun v1 =>
      Option.elim (v1.1)
        (cond (!v1.2.2)
          (some (Sum.inr false))
          (none))
        fun y2 => cond (!v1.2.2)
          (some (Sum.inr false))
          (Option.bind (g22 y2.1 y2.2 v1.2.1.1 v1.2.1.2) fun v3 =>
          cond (!v3.1)
            (some (Sum.inr false))
            (ih ((t1, IntKind.i64.wrap (t9 + 1)), v3.2.2, v1.2.1, v3.2.1, ()))))
      (none))
    (some (Sum.inl ((), ())))
noncomputable def h5_0 : (((List (Int × Int × Int × Int × Int × List UInt8 × List UInt8)) × Int) × ((List (Int × Int × List UInt8)) × (Int × List (Int × Int × List UInt8)) × Int × Unit)) → Option (((Unit) × (Unit)) ⊕ Bool) := loopN st5_0 fuel
noncomputable def l5_0 : LI D5 := ⟨ns5_0, ex5_0, h5_0⟩
noncomputable def lv5 : Nat → Option (LI D5) := fun q => if q = 10 then some l5_0 else (fun _ => none) q
noncomputable def g5 (a0 : Int) (a1 : List (Int × Int × Int × Int × Int × List UInt8 × List UInt8)) : Option (Bool) :=
  Option.bind (g7 a1) fun v1 =>
  cond (!v1)
    (Option.bind (g8) fun v2 =>
    some (v2))
    (Option.bind (g9 a0) fun v3 =>
    Option.elim (v3.1)
      (Option.bind (g20 a0) fun v10 =>
      cond (v3.2 != v10.2)
        (some (false))
        (cond (!true == (v3.2 != 0))
          (some (false))
          (cond (v3.2 != 0)
            (Option.bind (g8) fun v11 =>
            some (v11))
            (none))))
      fun y4 => Option.bind (g20 a0) fun v5 =>
      cond (v3.2 != v5.2)
        (some (false))
        (cond (!false == (v3.2 != 0))
          (some (false))
          (cond (v3.2 != 0)
            (Option.bind (g8) fun v6 =>
            some (v6))
            (Option.bind (h5_0 ((a1, 0), y4.2, v5.1, y4.1, ())) fun v7 =>
            match v7 with
            | .inl x8 =>
              Option.bind (g8) fun v9 =>
              some (v9)
            | .inr x8 =>
              some (x8)))))
noncomputable def i5 : FI := ⟨ps5, .ty .b, fun (a0, a1) => g5 a0 a1⟩
theorem s5_0 : st5_0 = stepEval T Y env5 an lv5 (finO T true ps5 (.ty .b) Try.f5.results.toList) (loopAt c5 0) ns5_0 ex5_0 := by kernel_rfl
theorem e5 : (fun a => i5.G a) = fnEval T Y env5 an i5.ps i5.rs true Try.f5.results.toList lv5 c5 := by kernel_rfl
theorem lo5 : loopsOf c5 = [loopAt c5 0] := by kernel_rfl
theorem ll5 : LoopsOk T Y env5 an lv5 (finO T true ps5 (.ty .b) Try.f5.results.toList) c5 := loopsOk_of (by rw [lo5]; exact ⟨loop1 (li := l5_0) (by kernel_rfl) (by kernel_rfl) s5_0, trivial⟩)
theorem k5 : FnOk Try.prog 5 i5 :=
  fn_ok (T := T) (Y := Y) (an := an) (env := env5) (fr := true) (lenv := lv5) mixed tok.1 tok.2 (envCons k7 (envCons k8 (envCons k9 (envCons k20 (envCons k21 (envCons k22 (envNil))))))) (fn := Try.f5) (c := c5) (by kernel_rfl) (by kernel_rfl) (by kernel_rfl) ll5 (fun a => congrFun e5 a)
/-! ### broker/brokerlaw34.SeglogOpens -/
noncomputable def c6 : Code := Try.f6.body.getD .skip
noncomputable def env6 : Env := mkEnv [(8, i8), (23, i23), (24, i24), (14, i14), (25, i25), (22, i22), (15, i15)]
abbrev ps6 : List PSh := [.d (.i .i64), .d (.sl (.st (.pr (.i .i64) (.pr (.i .i64) (.sl .u8))))), .d (.i .i64)]
abbrev D6 : Type := pairD (.ty .b) (osOf ps6)
def ns6_0 : NS := { slots := [(0, .ty (.i .i64)), (1, .ty (.sl (.st (.pr (.i .i64) (.pr (.i .i64) (.sl .u8)))))), (2, .ty (.i .i64)), (7, .ty (.i .i64))], roots := [] }
def ex6_0 : List (Nat × NS) := [(0, { slots := [(0, .ty (.i .i64)), (1, .ty (.sl (.st (.pr (.i .i64) (.pr (.i .i64) (.sl .u8)))))), (2, .ty (.i .i64))], roots := [] })]
noncomputable def st6_0 (ih : ((Int × (List (Int × Int × List UInt8)) × Int × Int) × (Unit)) → Option (((Int × (List (Int × Int × List UInt8)) × Int) × (Unit)) ⊕ Bool)) : ((Int × (List (Int × Int × List UInt8)) × Int × Int) × (Unit)) → Option (((Int × (List (Int × Int × List UInt8)) × Int) × (Unit)) ⊕ Bool) := fun ((t0, t1, t2, t7), ()) =>
  cond (decide (t7 < (↑t1.length : Int)))
    (cond (decide (0 ≤ t7) && decide (t7 < (↑t1.length : Int)))
      (cond (decide ((↑(List.length (t1.getD t7.toNat (0, 0, [])).2.2) : Int) > 2000))
        (Option.bind (g8) fun v1 =>
        some (Sum.inr v1))
        (ih ((t0, t1, t2, IntKind.i64.wrap (t7 + 1)), ())))
      (none))
    (some (Sum.inl ((t0, t1, t2), ())))
noncomputable def h6_0 : ((Int × (List (Int × Int × List UInt8)) × Int × Int) × (Unit)) → Option (((Int × (List (Int × Int × List UInt8)) × Int) × (Unit)) ⊕ Bool) := loopN st6_0 fuel
noncomputable def l6_0 : LI D6 := ⟨ns6_0, ex6_0, h6_0⟩
noncomputable def lv6 : Nat → Option (LI D6) := fun q => if q = 4 then some l6_0 else (fun _ => none) q
noncomputable def g6 (a0 : Int) (a1 : List (Int × Int × List UInt8)) (a2 : Int) : Option (Bool) :=
  cond (decide ((↑a1.length : Int) > 6))
    (Option.bind (g8) fun v1 =>
    some (v1))
    (Option.bind (h6_0 ((a0, a1, a2, 0), ())) fun v2 =>
    match v2 with
    | .inl x3 =>
      Option.bind (g23 x3.1.1 x3.1.2.1) fun v4 =>
      Option.elim (v4.1)
        (Option.bind (g24 x3.1.1 x3.1.2.1) fun v13 =>
        cond (v4.2 != v13.2)
          (some (false))
          (cond (!true == (v4.2 != 0))
            (some (false))
            (cond (v4.2 != 0)
              (Option.bind (g8) fun v14 =>
              some (v14))
              (none))))
        fun y5 => Option.bind (g24 x3.1.1 x3.1.2.1) fun v6 =>
        cond (v4.2 != v6.2)
          (some (false))
          (cond (!false == (v4.2 != 0))
            (some (false))
            (cond (v4.2 != 0)
              (Option.bind (g8) fun v7 =>
              some (v7))
              (Option.bind (g14 y5.1 y5.2 x3.1.2.2 20) fun v8 =>
              Option.bind (g25 v6.1.1 v6.1.2 x3.1.2.2 20) fun v9 =>
              Option.bind (g22 v8.2.1 v8.2.2 v6.1.1 v6.1.2) fun v10 =>
              cond (v10.1)
                (Option.bind (g15 v8.1.1 v9.1) fun v11 =>
                cond (v11)
                  (cond (v8.1.2 == v9.2)
                    (Option.bind (g8) fun v12 =>
                    some (v12))
                    (some (false)))
                  (some (false)))
                (some (false)))))
    | .inr x3 =>
      some (x3))
noncomputable def i6 : FI := ⟨ps6, .ty .b, fun (a0, a1, a2) => g6 a0 a1 a2⟩
theorem s6_0 : st6_0 = stepEval T Y env6 an lv6 (finO T true ps6 (.ty .b) Try.f6.results.toList) (loopAt c6 0) ns6_0 ex6_0 := by kernel_rfl
theorem e6 : (fun a => i6.G a) = fnEval T Y env6 an i6.ps i6.rs true Try.f6.results.toList lv6 c6 := by kernel_rfl
theorem lo6 : loopsOf c6 = [loopAt c6 0] := by kernel_rfl
theorem ll6 : LoopsOk T Y env6 an lv6 (finO T true ps6 (.ty .b) Try.f6.results.toList) c6 := loopsOk_of (by rw [lo6]; exact ⟨loop1 (li := l6_0) (by kernel_rfl) (by kernel_rfl) s6_0, trivial⟩)
theorem k6 : FnOk Try.prog 6 i6 :=
  fn_ok (T := T) (Y := Y) (an := an) (env := env6) (fr := true) (lenv := lv6) mixed tok.1 tok.2 (envCons k8 (envCons k23 (envCons k24 (envCons k14 (envCons k25 (envCons k22 (envCons k15 (envNil)))))))) (fn := Try.f6) (c := c6) (by kernel_rfl) (by kernel_rfl) (by kernel_rfl) ll6 (fun a => congrFun e6 a)
end Go.Proofs.Ytbncnkchedhnpaa.EVT
