/- What functions compute, as printed (U, part B). -/
import Derived.Test.YtfadalgikdffeaaGreatUA
import Derived.Test.YtfadalgikdffeaaGreatUC
set_option linter.unusedVariables false
set_option maxRecDepth 100000
set_option maxHeartbeats 0
namespace Go.Proofs.YtfadalgikdffeaaGreat.EVT
open Go Go.EV
/-! ### broker/replica.New -/
noncomputable def c61 : Code := Tryz.f61.body.getD .skip
noncomputable def env61 : Env := mkEnv [(79, i79)]
abbrev ps61 : List PSh := [.d (.i .i64), .d (.i .i64)]
abbrev D61 : Type := pairD (.tup (.pr (.ty QS1) (.ty (.i .i64)))) (osOf ps61)
noncomputable def lv61 : Nat → Option (LI D61) := fun _ => none
noncomputable def g61 (a0 : Int) (a1 : Int) : Option (((Int × Int × Int × Int × Int × Int × List Int) × Int × List (Int × List UInt8) × List Int) × Int) :=
  Option.bind (g79 a0 a1) fun v1 =>
  some (((v1.1, 0, [], []), v1.2))
noncomputable def i61 : FI := ⟨ps61, .tup (.pr (.ty QS1) (.ty (.i .i64))), fun (a0, a1) => g61 a0 a1⟩
theorem e61 : (fun a => i61.G a) = fnEval T Y env61 an i61.ps i61.rs true Tryz.f61.results.toList lv61 c61 := by kernel_rfl
theorem lo61 : loopsOf c61 = [] := by kernel_rfl
theorem ll61 : LoopsOk T Y env61 an lv61 (finO T true ps61 (.tup (.pr (.ty QS1) (.ty (.i .i64)))) Tryz.f61.results.toList) c61 := loopsOk_of (by rw [lo61]; exact trivial)
theorem k61 : FnOk Tryz.prog 61 i61 :=
  fn_ok (T := T) (Y := Y) (an := an) (env := env61) (fr := true) (lenv := lv61) mixed tok.1 tok.2 (envCons k79 (envNil)) (fn := Tryz.f61) (c := c61) (by kernel_rfl) (by kernel_rfl) (by kernel_rfl) ll61 (fun a => congrFun e61 a)
/-! ### broker/brokerref41.Same -/
noncomputable def c12 : Code := Tryz.f12.body.getD .skip
noncomputable def env12 : Env := mkEnv [(41, i41), (42, i42), (29, i29)]
abbrev ps12 : List PSh := [.d QS1, .d QS1]
abbrev D12 : Type := pairD (.ty .b) (osOf ps12)
noncomputable def lv12 : Nat → Option (LI D12) := fun _ => none
noncomputable def g12 (a0_0_0 : Int) (a0_0_1 : Int) (a0_0_2 : Int) (a0_0_3 : Int) (a0_0_4 : Int) (a0_0_5 : Int) (a0_0_6 : List Int) (a0_1 : Int) (a0_2 : List (Int × List UInt8)) (a0_3 : List Int) (a1_0_0 : Int) (a1_0_1 : Int) (a1_0_2 : Int) (a1_0_3 : Int) (a1_0_4 : Int) (a1_0_5 : Int) (a1_0_6 : List Int) (a1_1 : Int) (a1_2 : List (Int × List UInt8)) (a1_3 : List Int) : Option (Bool) :=
  Option.bind (g41 a0_0_0 a0_0_1 a0_0_2 a0_0_3 a0_0_4 a0_0_5 a0_0_6 a1_0_0 a1_0_1 a1_0_2 a1_0_3 a1_0_4 a1_0_5 a1_0_6) fun v1 =>
  cond (v1)
    (cond (a0_1 == a1_1)
      (Option.bind (g42 a0_2 a1_2) fun v2 =>
      cond (v2)
        (Option.bind (g29 a0_3 a1_3) fun v3 =>
        some (v3))
        (some (false)))
      (some (false)))
    (some (false))
noncomputable def i12 : FI := ⟨ps12, .ty .b, fun (((a0_0_0, a0_0_1, a0_0_2, a0_0_3, a0_0_4, a0_0_5, a0_0_6), a0_1, a0_2, a0_3), ((a1_0_0, a1_0_1, a1_0_2, a1_0_3, a1_0_4, a1_0_5, a1_0_6), a1_1, a1_2, a1_3)) => g12 a0_0_0 a0_0_1 a0_0_2 a0_0_3 a0_0_4 a0_0_5 a0_0_6 a0_1 a0_2 a0_3 a1_0_0 a1_0_1 a1_0_2 a1_0_3 a1_0_4 a1_0_5 a1_0_6 a1_1 a1_2 a1_3⟩
theorem e12 : (fun a => i12.G a) = fnEval T Y env12 an i12.ps i12.rs true Tryz.f12.results.toList lv12 c12 := by kernel_rfl
theorem lo12 : loopsOf c12 = [] := by kernel_rfl
theorem ll12 : LoopsOk T Y env12 an lv12 (finO T true ps12 (.ty .b) Tryz.f12.results.toList) c12 := loopsOk_of (by rw [lo12]; exact trivial)
theorem k12 : FnOk Tryz.prog 12 i12 :=
  fn_ok (T := T) (Y := Y) (an := an) (env := env12) (fr := true) (lenv := lv12) mixed tok.1 tok.2 (envCons k41 (envCons k42 (envCons k29 (envNil)))) (fn := Tryz.f12) (c := c12) (by kernel_rfl) (by kernel_rfl) (by kernel_rfl) ll12 (fun a => congrFun e12 a)
/-! ### broker/replica.Check -/
noncomputable def c30 : Code := Tryz.f30.body.getD .skip
noncomputable def env30 : Env := mkEnv [(62, i62), (63, i63), (32, i32)]
abbrev ps30 : List PSh := [.d QS1]
abbrev D30 : Type := pairD (.ty (.i .i64)) (osOf ps30)
def ns30_0 : NS := { slots := [(1, .pt 1 []), (30, .ty (.sl (.i .i64))), (31, .ty (.i .i64)), (32, .ty (.i .i64))], roots := [(1, .ty QS1)] }
def ex30_0 : List (Nat × NS) := [(0, { slots := [(1, .pt 1 [])], roots := [(1, .ty QS1)] })]
noncomputable def st30_0 (ih : ((List Int × Int × Int) × ((Int × Int × Int × Int × Int × Int × List Int) × Int × List (Int × List UInt8) × List Int)) → Option (((Unit) × ((Int × Int × Int × Int × Int × Int × List Int) × Int × List (Int × List UInt8) × List Int)) ⊕ Int)) : ((List Int × Int × Int) × ((Int × Int × Int × Int × Int × Int × List Int) × Int × List (Int × List UInt8) × List Int)) → Option (((Unit) × ((Int × Int × Int × Int × Int × Int × List Int) × Int × List (Int × List UInt8) × List Int)) ⊕ Int) := fun ((t30, t31, t32), ((r1_0_0, r1_0_1, r1_0_2, r1_0_3, r1_0_4, r1_0_5, r1_0_6), r1_1, r1_2, r1_3)) =>
  cond (decide (t32 < t31))
    (cond (decide (0 ≤ t32) && decide (t32 < (↑t30.length : Int)))
      (cond (decide (t30.getD t32.toNat 0 < 0))
        (some (Sum.inr 1))
        (cond (decide (t30.getD t32.toNat 0 > (↑r1_2.length : Int)))
          (some (Sum.inr 1))
          (ih ((t30, t31, IntKind.i64.wrap (t32 + 1)), (r1_0_0, r1_0_1, r1_0_2, r1_0_3, r1_0_4, r1_0_5, r1_0_6), r1_1, r1_2, r1_3))))
      (none))
    (some (Sum.inl ((), (r1_0_0, r1_0_1, r1_0_2, r1_0_3, r1_0_4, r1_0_5, r1_0_6), r1_1, r1_2, r1_3)))
noncomputable def h30_0 : ((List Int × Int × Int) × ((Int × Int × Int × Int × Int × Int × List Int) × Int × List (Int × List UInt8) × List Int)) → Option (((Unit) × ((Int × Int × Int × Int × Int × Int × List Int) × Int × List (Int × List UInt8) × List Int)) ⊕ Int) := loopN st30_0 fuel
noncomputable def l30_0 : LI D30 := ⟨ns30_0, ex30_0, h30_0⟩
noncomputable def lv30 : Nat → Option (LI D30) := fun q => if q = 13 then some l30_0 else (fun _ => none) q
noncomputable def g30 (a0_0_0 : Int) (a0_0_1 : Int) (a0_0_2 : Int) (a0_0_3 : Int) (a0_0_4 : Int) (a0_0_5 : Int) (a0_0_6 : List Int) (a0_1 : Int) (a0_2 : List (Int × List UInt8)) (a0_3 : List Int) : Option (Int) :=
  Option.bind (g62 a0_0_0 a0_0_1 a0_0_2 a0_0_3 a0_0_4 a0_0_5 a0_0_6) fun v1 =>
  cond (v1 != 0)
    (some (v1))
    (Option.bind (g63 a0_0_0 a0_0_1 a0_0_2 a0_0_3 a0_0_4 a0_0_5 a0_0_6 a0_1 a0_2 a0_3) fun v2 =>
    cond (v2 != 0)
      (some (v2))
      (Option.bind (g32 a0_0_0 a0_0_1 a0_0_2 a0_0_3 a0_0_4 a0_0_5 a0_0_6 a0_1 a0_2 a0_3) fun v3 =>
      cond (v3)
        (cond ((↑a0_3.length : Int) != a0_0_1)
          (some (9))
          (Option.bind (h30_0 ((a0_3, (↑a0_3.length : Int), 0), (a0_0_0, a0_0_1, a0_0_2, a0_0_3, a0_0_4, a0_0_5, a0_0_6), a0_1, a0_2, a0_3)) fun v4 =>
          match v4 with
          | .inl x5 =>
            Option.bind (g32 x5.2.1.1 x5.2.1.2.1 x5.2.1.2.2.1 x5.2.1.2.2.2.1 x5.2.1.2.2.2.2.1 x5.2.1.2.2.2.2.2.1 x5.2.1.2.2.2.2.2.2 x5.2.2.1 x5.2.2.2.1 x5.2.2.2.2) fun v6 =>
            cond (v6)
              (cond (decide (0 ≤ x5.2.1.1) && decide (x5.2.1.1 < (↑(List.length x5.2.2.2.2) : Int)))
                (cond (List.getD x5.2.2.2.2 (Int.toNat x5.2.1.1) 0 != (↑(List.length x5.2.2.2.1) : Int))
                  (some (9))
                  (some (0)))
                (none))
              (some (0))
          | .inr x5 =>
            some (x5)))
        (cond ((↑a0_3.length : Int) != 0)
          (some (9))
          (Option.bind (h30_0 ((a0_3, (↑a0_3.length : Int), 0), (a0_0_0, a0_0_1, a0_0_2, a0_0_3, a0_0_4, a0_0_5, a0_0_6), a0_1, a0_2, a0_3)) fun v7 =>
          match v7 with
          | .inl x8 =>
            Option.bind (g32 x8.2.1.1 x8.2.1.2.1 x8.2.1.2.2.1 x8.2.1.2.2.2.1 x8.2.1.2.2.2.2.1 x8.2.1.2.2.2.2.2.1 x8.2.1.2.2.2.2.2.2 x8.2.2.1 x8.2.2.2.1 x8.2.2.2.2) fun v9 =>
            cond (v9)
              (cond (decide (0 ≤ x8.2.1.1) && decide (x8.2.1.1 < (↑(List.length x8.2.2.2.2) : Int)))
                (cond (List.getD x8.2.2.2.2 (Int.toNat x8.2.1.1) 0 != (↑(List.length x8.2.2.2.1) : Int))
                  (some (9))
                  (some (0)))
                (none))
              (some (0))
          | .inr x8 =>
            some (x8)))))
noncomputable def i30 : FI := ⟨ps30, .ty (.i .i64), fun ((a0_0_0, a0_0_1, a0_0_2, a0_0_3, a0_0_4, a0_0_5, a0_0_6), a0_1, a0_2, a0_3) => g30 a0_0_0 a0_0_1 a0_0_2 a0_0_3 a0_0_4 a0_0_5 a0_0_6 a0_1 a0_2 a0_3⟩
theorem s30_0 : st30_0 = stepEval T Y env30 an lv30 (finO T true ps30 (.ty (.i .i64)) Tryz.f30.results.toList) (loopAt c30 0) ns30_0 ex30_0 := by kernel_rfl
theorem e30 : (fun a => i30.G a) = fnEval T Y env30 an i30.ps i30.rs true Tryz.f30.results.toList lv30 c30 := by kernel_rfl
theorem lo30 : loopsOf c30 = [loopAt c30 0] := by kernel_rfl
theorem ll30 : LoopsOk T Y env30 an lv30 (finO T true ps30 (.ty (.i .i64)) Tryz.f30.results.toList) c30 := loopsOk_of (by rw [lo30]; exact ⟨loop1 (li := l30_0) (by kernel_rfl) (by kernel_rfl) s30_0, trivial⟩)
theorem k30 : FnOk Tryz.prog 30 i30 :=
  fn_ok (T := T) (Y := Y) (an := an) (env := env30) (fr := true) (lenv := lv30) mixed tok.1 tok.2 (envCons k62 (envCons k63 (envCons k32 (envNil)))) (fn := Tryz.f30) (c := c30) (by kernel_rfl) (by kernel_rfl) (by kernel_rfl) ll30 (fun a => congrFun e30 a)
/-! ### broker/brokerref41.Check -/
noncomputable def c6 : Code := Tryz.f6.body.getD .skip
noncomputable def env6 : Env := mkEnv [(24, i24), (25, i25), (26, i26), (27, i27)]
abbrev ps6 : List PSh := [.d QS1]
abbrev D6 : Type := pairD (.ty (.i .i64)) (osOf ps6)
def ns6_1 : NS := { slots := [(1, .pt 1 []), (75, .ty (.sl (.i .i64))), (76, .ty (.i .i64)), (77, .ty (.i .i64))], roots := [(1, .ty QS1)] }
def ex6_1 : List (Nat × NS) := [(2, { slots := [(1, .pt 1 [])], roots := [(1, .ty QS1)] })]
noncomputable def st6_1 (ih : ((List Int × Int × Int) × ((Int × Int × Int × Int × Int × Int × List Int) × Int × List (Int × List UInt8) × List Int)) → Option (((Unit) × ((Int × Int × Int × Int × Int × Int × List Int) × Int × List (Int × List UInt8) × List Int)) ⊕ Int)) : ((List Int × Int × Int) × ((Int × Int × Int × Int × Int × Int × List Int) × Int × List (Int × List UInt8) × List Int)) → Option (((Unit) × ((Int × Int × Int × Int × Int × Int × List Int) × Int × List (Int × List UInt8) × List Int)) ⊕ Int) := fun ((t75, t76, t77), ((r1_0_0, r1_0_1, r1_0_2, r1_0_3, r1_0_4, r1_0_5, r1_0_6), r1_1, r1_2, r1_3)) =>
  cond (decide (t77 < t76))
    (cond (decide (0 ≤ t77) && decide (t77 < (↑t75.length : Int)))
      (Option.bind (g25 (t75.getD t77.toNat 0) 0 (↑r1_2.length : Int)) fun v1 =>
      cond (!v1)
        (some (Sum.inr 1))
        (ih ((t75, t76, IntKind.i64.wrap (t77 + 1)), (r1_0_0, r1_0_1, r1_0_2, r1_0_3, r1_0_4, r1_0_5, r1_0_6), r1_1, r1_2, r1_3)))
      (none))
    (some (Sum.inl ((), (r1_0_0, r1_0_1, r1_0_2, r1_0_3, r1_0_4, r1_0_5, r1_0_6), r1_1, r1_2, r1_3)))
noncomputable def h6_1 : ((List Int × Int × Int) × ((Int × Int × Int × Int × Int × Int × List Int) × Int × List (Int × List UInt8) × List Int)) → Option (((Unit) × ((Int × Int × Int × Int × Int × Int × List Int) × Int × List (Int × List UInt8) × List Int)) ⊕ Int) := loopN st6_1 fuel
noncomputable def l6_1 : LI D6 := ⟨ns6_1, ex6_1, h6_1⟩
def ns6_0 : NS := { slots := [(1, .pt 1 []), (19, .ty (.sl (.st (.pr (.i .i64) .s)))), (20, .ty (.i .i64)), (21, .ty (.i .i64))], roots := [(1, .ty QS1)] }
def ex6_0 : List (Nat × NS) := [(0, { slots := [(1, .pt 1 [])], roots := [(1, .ty QS1)] })]
noncomputable def st6_0 (ih : (((List (Int × List UInt8)) × Int × Int) × ((Int × Int × Int × Int × Int × Int × List Int) × Int × List (Int × List UInt8) × List Int)) → Option (((Unit) × ((Int × Int × Int × Int × Int × Int × List Int) × Int × List (Int × List UInt8) × List Int)) ⊕ Int)) : (((List (Int × List UInt8)) × Int × Int) × ((Int × Int × Int × Int × Int × Int × List Int) × Int × List (Int × List UInt8) × List Int)) → Option (((Unit) × ((Int × Int × Int × Int × Int × Int × List Int) × Int × List (Int × List UInt8) × List Int)) ⊕ Int) := fun ((t19, t20, t21), ((r1_0_0, r1_0_1, r1_0_2, r1_0_3, r1_0_4, r1_0_5, r1_0_6), r1_1, r1_2, r1_3)) =>
  cond (decide (t21 < t20))
    (cond (decide (0 ≤ t21) && decide (t21 < (↑t19.length : Int)))
      (Option.bind (g25 (t19.getD t21.toNat (0, [])).1 1 r1_0_2) fun v1 =>
      cond (!v1)
        (some (Sum.inr 1))
        (Option.bind (g26 r1_2 t21) fun v2 =>
        cond (decide ((t19.getD t21.toNat (0, [])).1 < v2))
          (some (Sum.inr 22))
          (cond (decide ((↑(List.length (t19.getD t21.toNat (0, [])).2) : Int) > 65536))
            (some (Sum.inr 5))
            (ih ((t19, t20, IntKind.i64.wrap (t21 + 1)), (r1_0_0, r1_0_1, r1_0_2, r1_0_3, r1_0_4, r1_0_5, r1_0_6), r1_1, r1_2, r1_3)))))
      (none))
    (some (Sum.inl ((), (r1_0_0, r1_0_1, r1_0_2, r1_0_3, r1_0_4, r1_0_5, r1_0_6), r1_1, r1_2, r1_3)))
noncomputable def h6_0 : (((List (Int × List UInt8)) × Int × Int) × ((Int × Int × Int × Int × Int × Int × List Int) × Int × List (Int × List UInt8) × List Int)) → Option (((Unit) × ((Int × Int × Int × Int × Int × Int × List Int) × Int × List (Int × List UInt8) × List Int)) ⊕ Int) := loopN st6_0 fuel
noncomputable def l6_0 : LI D6 := ⟨ns6_0, ex6_0, h6_0⟩
noncomputable def lv6 : Nat → Option (LI D6) := fun q => if q = 7 then some l6_0 else (fun q => if q = 21 then some l6_1 else (fun _ => none) q) q
noncomputable def g6 (a0_0_0 : Int) (a0_0_1 : Int) (a0_0_2 : Int) (a0_0_3 : Int) (a0_0_4 : Int) (a0_0_5 : Int) (a0_0_6 : List Int) (a0_1 : Int) (a0_2 : List (Int × List UInt8)) (a0_3 : List Int) : Option (Int) :=
  Option.bind (g24 a0_0_0 a0_0_1 a0_0_2 a0_0_3 a0_0_4 a0_0_5 a0_0_6) fun v1 =>
  cond (v1 != 0)
    (some (v1))
    (cond (decide ((↑a0_2.length : Int) > 4096))
      (some (5))
      (Option.bind (h6_0 ((a0_2, (↑a0_2.length : Int), 0), (a0_0_0, a0_0_1, a0_0_2, a0_0_3, a0_0_4, a0_0_5, a0_0_6), a0_1, a0_2, a0_3)) fun v2 =>
      match v2 with
      | .inl x3 =>
        Option.bind (g25 x3.2.2.1 0 (↑(List.length x3.2.2.2.1) : Int)) fun v4 =>
        cond (!v4)
          (some (1))
          (Option.bind (g27 x3.2.1.1 x3.2.1.2.1 x3.2.1.2.2.1 x3.2.1.2.2.2.1 x3.2.1.2.2.2.2.1 x3.2.1.2.2.2.2.2.1 x3.2.1.2.2.2.2.2.2 x3.2.2.1 x3.2.2.2.1 x3.2.2.2.2) fun v5 =>
          cond (!v5)
            (cond (decide ((↑(List.length x3.2.2.2.2) : Int) > 0))
              (some (9))
              (Option.bind (g27 x3.2.1.1 x3.2.1.2.1 x3.2.1.2.2.1 x3.2.1.2.2.2.1 x3.2.1.2.2.2.2.1 x3.2.1.2.2.2.2.2.1 x3.2.1.2.2.2.2.2.2 x3.2.2.1 x3.2.2.2.1 x3.2.2.2.2) fun v6 =>
              cond (v6)
                (cond ((↑(List.length x3.2.2.2.2) : Int) != x3.2.1.2.1)
                  (some (9))
                  (Option.bind (h6_1 ((x3.2.2.2.2, (↑(List.length x3.2.2.2.2) : Int), 0), x3.2)) fun v7 =>
                  match v7 with
                  | .inl x8 =>
                    Option.bind (g27 x8.2.1.1 x8.2.1.2.1 x8.2.1.2.2.1 x8.2.1.2.2.2.1 x8.2.1.2.2.2.2.1 x8.2.1.2.2.2.2.2.1 x8.2.1.2.2.2.2.2.2 x8.2.2.1 x8.2.2.2.1 x8.2.2.2.2) fun v9 =>
                    cond (v9)
                      (cond (decide (0 ≤ x8.2.1.1) && decide (x8.2.1.1 < (↑(List.length x8.2.2.2.2) : Int)))
                        (cond (List.getD x8.2.2.2.2 (Int.toNat x8.2.1.1) 0 != (↑(List.length x8.2.2.2.1) : Int))
                          (some (9))
                          (some (0)))
                        (none))
                      (some (0))
                  | .inr x8 =>
                    some (x8)))
                (Option.bind (h6_1 ((x3.2.2.2.2, (↑(List.length x3.2.2.2.2) : Int), 0), x3.2)) fun v10 =>
                match v10 with
                | .inl x11 =>
                  Option.bind (g27 x11.2.1.1 x11.2.1.2.1 x11.2.1.2.2.1 x11.2.1.2.2.2.1 x11.2.1.2.2.2.2.1 x11.2.1.2.2.2.2.2.1 x11.2.1.2.2.2.2.2.2 x11.2.2.1 x11.2.2.2.1 x11.2.2.2.2) fun v12 =>
                  cond (v12)
                    (cond (decide (0 ≤ x11.2.1.1) && decide (x11.2.1.1 < (↑(List.length x11.2.2.2.2) : Int)))
                      (cond (List.getD x11.2.2.2.2 (Int.toNat x11.2.1.1) 0 != (↑(List.length x11.2.2.2.1) : Int))
                        (some (9))
                        (some (0)))
                      (none))
                    (some (0))
                | .inr x11 =>
                  some (x11))))
            (Option.bind (g27 x3.2.1.1 x3.2.1.2.1 x3.2.1.2.2.1 x3.2.1.2.2.2.1 x3.2.1.2.2.2.2.1 x3.2.1.2.2.2.2.2.1 x3.2.1.2.2.2.2.2.2 x3.2.2.1 x3.2.2.2.1 x3.2.2.2.2) fun v13 =>
            cond (v13)
              (cond ((↑(List.length x3.2.2.2.2) : Int) != x3.2.1.2.1)
                (some (9))
                (Option.bind (h6_1 ((x3.2.2.2.2, (↑(List.length x3.2.2.2.2) : Int), 0), x3.2)) fun v14 =>
                match v14 with
                | .inl x15 =>
                  Option.bind (g27 x15.2.1.1 x15.2.1.2.1 x15.2.1.2.2.1 x15.2.1.2.2.2.1 x15.2.1.2.2.2.2.1 x15.2.1.2.2.2.2.2.1 x15.2.1.2.2.2.2.2.2 x15.2.2.1 x15.2.2.2.1 x15.2.2.2.2) fun v16 =>
                  cond (v16)
                    (cond (decide (0 ≤ x15.2.1.1) && decide (x15.2.1.1 < (↑(List.length x15.2.2.2.2) : Int)))
                      (cond (List.getD x15.2.2.2.2 (Int.toNat x15.2.1.1) 0 != (↑(List.length x15.2.2.2.1) : Int))
                        (some (9))
                        (some (0)))
                      (none))
                    (some (0))
                | .inr x15 =>
                  some (x15)))
              (Option.bind (h6_1 ((x3.2.2.2.2, (↑(List.length x3.2.2.2.2) : Int), 0), x3.2)) fun v17 =>
              match v17 with
              | .inl x18 =>
                Option.bind (g27 x18.2.1.1 x18.2.1.2.1 x18.2.1.2.2.1 x18.2.1.2.2.2.1 x18.2.1.2.2.2.2.1 x18.2.1.2.2.2.2.2.1 x18.2.1.2.2.2.2.2.2 x18.2.2.1 x18.2.2.2.1 x18.2.2.2.2) fun v19 =>
                cond (v19)
                  (cond (decide (0 ≤ x18.2.1.1) && decide (x18.2.1.1 < (↑(List.length x18.2.2.2.2) : Int)))
                    (cond (List.getD x18.2.2.2.2 (Int.toNat x18.2.1.1) 0 != (↑(List.length x18.2.2.2.1) : Int))
                      (some (9))
                      (some (0)))
                    (none))
                  (some (0))
              | .inr x18 =>
                some (x18))))
      | .inr x3 =>
        some (x3)))
noncomputable def i6 : FI := ⟨ps6, .ty (.i .i64), fun ((a0_0_0, a0_0_1, a0_0_2, a0_0_3, a0_0_4, a0_0_5, a0_0_6), a0_1, a0_2, a0_3) => g6 a0_0_0 a0_0_1 a0_0_2 a0_0_3 a0_0_4 a0_0_5 a0_0_6 a0_1 a0_2 a0_3⟩
theorem s6_1 : st6_1 = stepEval T Y env6 an lv6 (finO T true ps6 (.ty (.i .i64)) Tryz.f6.results.toList) (loopAt c6 1) ns6_1 ex6_1 := by kernel_rfl
theorem s6_0 : st6_0 = stepEval T Y env6 an lv6 (finO T true ps6 (.ty (.i .i64)) Tryz.f6.results.toList) (loopAt c6 0) ns6_0 ex6_0 := by kernel_rfl
theorem e6 : (fun a => i6.G a) = fnEval T Y env6 an i6.ps i6.rs true Tryz.f6.results.toList lv6 c6 := by kernel_rfl
theorem lo6 : loopsOf c6 = [loopAt c6 0, loopAt c6 1] := by kernel_rfl
theorem ll6 : LoopsOk T Y env6 an lv6 (finO T true ps6 (.ty (.i .i64)) Tryz.f6.results.toList) c6 := loopsOk_of (by rw [lo6]; exact ⟨loop1 (li := l6_0) (by kernel_rfl) (by kernel_rfl) s6_0, ⟨loop1 (li := l6_1) (by kernel_rfl) (by kernel_rfl) s6_1, trivial⟩⟩)
theorem k6 : FnOk Tryz.prog 6 i6 :=
  fn_ok (T := T) (Y := Y) (an := an) (env := env6) (fr := true) (lenv := lv6) mixed tok.1 tok.2 (envCons k24 (envCons k25 (envCons k26 (envCons k27 (envNil))))) (fn := Tryz.f6) (c := c6) (by kernel_rfl) (by kernel_rfl) (by kernel_rfl) ll6 (fun a => congrFun e6 a)
/-! ### broker/brokerlaw41.brief -/
noncomputable def c23 : Code := Tryz.f23.body.getD .skip
noncomputable def env23 : Env := mkEnv []
abbrev ps23 : List PSh := [.d (.sl (.st (.pr (.i .i64) .s)))]
abbrev D23 : Type := pairD (.ty .b) (osOf ps23)
def ns23_0 : NS := { slots := [(5, .ty (.sl (.st (.pr (.i .i64) .s)))), (6, .ty (.i .i64)), (7, .ty (.i .i64))], roots := [] }
def ex23_0 : List (Nat × NS) := [(0, { slots := [], roots := [] })]
noncomputable def st23_0 (ih : (((List (Int × List UInt8)) × Int × Int) × (Unit)) → Option (((Unit) × (Unit)) ⊕ Bool)) : (((List (Int × List UInt8)) × Int × Int) × (Unit)) → Option (((Unit) × (Unit)) ⊕ Bool) := fun ((t5, t6, t7), ()) =>
  cond (decide (t7 < t6))
    (cond (decide (0 ≤ t7) && decide (t7 < (↑t5.length : Int)))
      (cond (decide ((↑(List.length (t5.getD t7.toNat (0, [])).2) : Int) > 100))
        (some (Sum.inr false))
        (ih ((t5, t6, IntKind.i64.wrap (t7 + 1)), ())))
      (none))
    (some (Sum.inl ((), ())))
noncomputable def h23_0 : (((List (Int × List UInt8)) × Int × Int) × (Unit)) → Option (((Unit) × (Unit)) ⊕ Bool) := loopN st23_0 fuel
noncomputable def l23_0 : LI D23 := ⟨ns23_0, ex23_0, h23_0⟩
noncomputable def lv23 : Nat → Option (LI D23) := fun q => if q = 2 then some l23_0 else (fun _ => none) q
noncomputable def g23 (a0 : List (Int × List UInt8)) : Option (Bool) :=
  Option.bind (h23_0 ((a0, (↑a0.length : Int), 0), ())) fun v1 =>
  match v1 with
  | .inl x2 =>
    some (true)
  | .inr x2 =>
    some (x2)
noncomputable def i23 : FI := ⟨ps23, .ty .b, fun a0 => g23 a0⟩
theorem s23_0 : st23_0 = stepEval T Y env23 an lv23 (finO T true ps23 (.ty .b) Tryz.f23.results.toList) (loopAt c23 0) ns23_0 ex23_0 := by kernel_rfl
theorem e23 : (fun a => i23.G a) = fnEval T Y env23 an i23.ps i23.rs true Tryz.f23.results.toList lv23 c23 := by kernel_rfl
theorem lo23 : loopsOf c23 = [loopAt c23 0] := by kernel_rfl
theorem ll23 : LoopsOk T Y env23 an lv23 (finO T true ps23 (.ty .b) Tryz.f23.results.toList) c23 := loopsOk_of (by rw [lo23]; exact ⟨loop1 (li := l23_0) (by kernel_rfl) (by kernel_rfl) s23_0, trivial⟩)
theorem k23 : FnOk Tryz.prog 23 i23 :=
  fn_ok (T := T) (Y := Y) (an := an) (env := env23) (fr := true) (lenv := lv23) mixed tok.1 tok.2 (envNil) (fn := Tryz.f23) (c := c23) (by kernel_rfl) (by kernel_rfl) (by kernel_rfl) ll23 (fun a => congrFun e23 a)
/-! ### broker/brokerlaw41.few -/
noncomputable def c4 : Code := Tryz.f4.body.getD .skip
noncomputable def env4 : Env := mkEnv [(23, i23)]
abbrev ps4 : List PSh := [.d QS1]
abbrev D4 : Type := pairD (.ty .b) (osOf ps4)
noncomputable def lv4 : Nat → Option (LI D4) := fun _ => none
noncomputable def g4 (a0_0_0 : Int) (a0_0_1 : Int) (a0_0_2 : Int) (a0_0_3 : Int) (a0_0_4 : Int) (a0_0_5 : Int) (a0_0_6 : List Int) (a0_1 : Int) (a0_2 : List (Int × List UInt8)) (a0_3 : List Int) : Option (Bool) :=
  cond (decide ((↑a0_2.length : Int) ≤ 40))
    (cond (decide ((↑a0_3.length : Int) ≤ 20))
      (cond (decide ((↑a0_0_6.length : Int) ≤ 20))
        (Option.bind (g23 a0_2) fun v1 =>
        some (v1))
        (some (false)))
      (some (false)))
    (some (false))
noncomputable def i4 : FI := ⟨ps4, .ty .b, fun ((a0_0_0, a0_0_1, a0_0_2, a0_0_3, a0_0_4, a0_0_5, a0_0_6), a0_1, a0_2, a0_3) => g4 a0_0_0 a0_0_1 a0_0_2 a0_0_3 a0_0_4 a0_0_5 a0_0_6 a0_1 a0_2 a0_3⟩
theorem e4 : (fun a => i4.G a) = fnEval T Y env4 an i4.ps i4.rs true Tryz.f4.results.toList lv4 c4 := by kernel_rfl
theorem lo4 : loopsOf c4 = [] := by kernel_rfl
theorem ll4 : LoopsOk T Y env4 an lv4 (finO T true ps4 (.ty .b) Tryz.f4.results.toList) c4 := loopsOk_of (by rw [lo4]; exact trivial)
theorem k4 : FnOk Tryz.prog 4 i4 :=
  fn_ok (T := T) (Y := Y) (an := an) (env := env4) (fr := true) (lenv := lv4) mixed tok.1 tok.2 (envCons k23 (envNil)) (fn := Tryz.f4) (c := c4) (by kernel_rfl) (by kernel_rfl) (by kernel_rfl) ll4 (fun a => congrFun e4 a)
/-! ### broker/brokerlaw41.light -/
noncomputable def c5 : Code := Tryz.f5.body.getD .skip
noncomputable def env5 : Env := mkEnv [(23, i23)]
abbrev ps5 : List PSh := [.d QS2]
abbrev D5 : Type := pairD (.ty .b) (osOf ps5)
def ns5_0 : NS := { slots := [(0, .ty QS2), (5, .ty QS2), (6, .ty (.i .i64)), (7, .ty (.i .i64))], roots := [] }
def ex5_0 : List (Nat × NS) := [(0, { slots := [(0, .ty QS2)], roots := [] })]
noncomputable def st5_0 (ih : (((List QT1) × (List QT1) × Int × Int) × (Unit)) → Option (((List QT1) × (Unit)) ⊕ Bool)) : (((List QT1) × (List QT1) × Int × Int) × (Unit)) → Option (((List QT1) × (Unit)) ⊕ Bool) := fun ((t0, t5, t6, t7), ()) =>
  cond (decide (t7 < t6))
    (cond (decide (0 ≤ t7) && decide (t7 < (↑t5.length : Int)))
      (cond (decide ((↑(List.length (t5.getD t7.toNat (0, [], 0, 0, 0, 0, 0, 0, 0, false, [])).2.1) : Int) > 100))
        (some (Sum.inr false))
        (cond (decide ((↑(List.length (t5.getD t7.toNat (0, [], 0, 0, 0, 0, 0, 0, 0, false, [])).2.2.2.2.2.2.2.2.2.2) : Int) > 40))
          (some (Sum.inr false))
          (Option.bind (g23 (t5.getD t7.toNat (0, [], 0, 0, 0, 0, 0, 0, 0, false, [])).2.2.2.2.2.2.2.2.2.2) fun v1 =>
          cond (!v1)
            (some (Sum.inr false))
            (ih ((t0, t5, t6, IntKind.i64.wrap (t7 + 1)), ())))))
      (none))
    (some (Sum.inl (t0, ())))
noncomputable def h5_0 : (((List QT1) × (List QT1) × Int × Int) × (Unit)) → Option (((List QT1) × (Unit)) ⊕ Bool) := loopN st5_0 fuel
noncomputable def l5_0 : LI D5 := ⟨ns5_0, ex5_0, h5_0⟩
noncomputable def lv5 : Nat → Option (LI D5) := fun q => if q = 2 then some l5_0 else (fun _ => none) q
noncomputable def g5 (a0 : List QT1) : Option (Bool) :=
  Option.bind (h5_0 ((a0, a0, (↑a0.length : Int), 0), ())) fun v1 =>
  match v1 with
  | .inl x2 =>
    some (decide ((↑(List.length x2.1) : Int) ≤ 40))
  | .inr x2 =>
    some (x2)
noncomputable def i5 : FI := ⟨ps5, .ty .b, fun a0 => g5 a0⟩
theorem s5_0 : st5_0 = stepEval T Y env5 an lv5 (finO T true ps5 (.ty .b) Tryz.f5.results.toList) (loopAt c5 0) ns5_0 ex5_0 := by kernel_rfl
theorem e5 : (fun a => i5.G a) = fnEval T Y env5 an i5.ps i5.rs true Tryz.f5.results.toList lv5 c5 := by kernel_rfl
theorem lo5 : loopsOf c5 = [loopAt c5 0] := by kernel_rfl
theorem ll5 : LoopsOk T Y env5 an lv5 (finO T true ps5 (.ty .b) Tryz.f5.results.toList) c5 := loopsOk_of (by rw [lo5]; exact ⟨loop1 (li := l5_0) (by kernel_rfl) (by kernel_rfl) s5_0, trivial⟩)
theorem k5 : FnOk Tryz.prog 5 i5 :=
  fn_ok (T := T) (Y := Y) (an := an) (env := env5) (fr := true) (lenv := lv5) mixed tok.1 tok.2 (envCons k23 (envNil)) (fn := Tryz.f5) (c := c5) (by kernel_rfl) (by kernel_rfl) (by kernel_rfl) ll5 (fun a => congrFun e5 a)
/-! ### broker/replica.concerns -/
noncomputable def c43 : Code := Tryz.f43.body.getD .skip
noncomputable def env43 : Env := mkEnv []
abbrev ps43 : List PSh := [.d QS6, .d QS5]
abbrev D43 : Type := pairD (.ty .b) (osOf ps43)
noncomputable def lv43 : Nat → Option (LI D43) := fun _ => none
noncomputable def g43 (a0_0 : Int) (a0_1 : Int) (a0_2 : Int) (a0_3 : Int) (a0_4 : Int) (a0_5 : Int) (a0_6 : List Int) (a1_0 : Int) (a1_1 : Int) (a1_2 : Int) (a1_3 : Int) (a1_4 : Int) (a1_5 : Int) (a1_6 : Int) (a1_7 : Bool) (a1_8 : List (Int × List UInt8)) : Option (Bool) :=
  cond (a1_2 == a0_0)
    (cond (a1_1 != a0_0)
      (cond (decide (a1_1 ≥ 0))
        (cond (decide (a1_1 < a0_1))
          (cond (decide (a1_3 ≥ 1))
            (some (decide (a1_3 ≤ 1099511627776)))
            (some (false)))
          (some (false)))
        (some (false)))
      (some (false)))
    (some (false))
noncomputable def i43 : FI := ⟨ps43, .ty .b, fun ((a0_0, a0_1, a0_2, a0_3, a0_4, a0_5, a0_6), (a1_0, a1_1, a1_2, a1_3, a1_4, a1_5, a1_6, a1_7, a1_8)) => g43 a0_0 a0_1 a0_2 a0_3 a0_4 a0_5 a0_6 a1_0 a1_1 a1_2 a1_3 a1_4 a1_5 a1_6 a1_7 a1_8⟩
theorem e43 : (fun a => i43.G a) = fnEval T Y env43 an i43.ps i43.rs true Tryz.f43.results.toList lv43 c43 := by kernel_rfl
theorem lo43 : loopsOf c43 = [] := by kernel_rfl
theorem ll43 : LoopsOk T Y env43 an lv43 (finO T true ps43 (.ty .b) Tryz.f43.results.toList) c43 := loopsOk_of (by rw [lo43]; exact trivial)
theorem k43 : FnOk Tryz.prog 43 i43 :=
  fn_ok (T := T) (Y := Y) (an := an) (env := env43) (fr := true) (lenv := lv43) mixed tok.1 tok.2 (envNil) (fn := Tryz.f43) (c := c43) (by kernel_rfl) (by kernel_rfl) (by kernel_rfl) ll43 (fun a => congrFun e43 a)
/-! ### broker/replica.sound -/
noncomputable def c47 : Code := Tryz.f47.body.getD .skip
noncomputable def env47 : Env := mkEnv []
abbrev ps47 : List PSh := [.d QS5]
abbrev D47 : Type := pairD (.ty .b) (osOf ps47)
def ns47_0 : NS := { slots := [(1, .pt 1 []), (3, .ty (.i .i64)), (54, .ty (.sl (.st (.pr (.i .i64) .s)))), (55, .ty (.i .i64)), (56, .ty (.i .i64))], roots := [(1, .ty QS5)] }
def ex47_0 : List (Nat × NS) := [(0, { slots := [], roots := [] })]
noncomputable def st47_0 (ih : ((Int × (List (Int × List UInt8)) × Int × Int) × QT2) → Option (((Unit) × (Unit)) ⊕ Bool)) : ((Int × (List (Int × List UInt8)) × Int × Int) × QT2) → Option (((Unit) × (Unit)) ⊕ Bool) := fun ((t3, t54, t55, t56), (r1_0, r1_1, r1_2, r1_3, r1_4, r1_5, r1_6, r1_7, r1_8)) =>
  cond (decide (t56 < t55))
    (cond (decide (0 ≤ t56) && decide (t56 < (↑t54.length : Int)))
      (cond (decide ((t54.getD t56.toNat (0, [])).1 < t3))
        (some (Sum.inr false))
        (cond (decide ((t54.getD t56.toNat (0, [])).1 > r1_3))
          (some (Sum.inr false))
          (cond (decide ((↑(List.length (t54.getD t56.toNat (0, [])).2) : Int) > 65536))
            (some (Sum.inr false))
            (ih (((t54.getD t56.toNat (0, [])).1, t54, t55, IntKind.i64.wrap (t56 + 1)), r1_0, r1_1, r1_2, r1_3, r1_4, r1_5, r1_6, r1_7, r1_8)))))
      (none))
    (some (Sum.inl ((), ())))
noncomputable def h47_0 : ((Int × (List (Int × List UInt8)) × Int × Int) × QT2) → Option (((Unit) × (Unit)) ⊕ Bool) := loopN st47_0 fuel
noncomputable def l47_0 : LI D47 := ⟨ns47_0, ex47_0, h47_0⟩
noncomputable def lv47 : Nat → Option (LI D47) := fun q => if q = 7 then some l47_0 else (fun _ => none) q
noncomputable def g47 (a0_0 : Int) (a0_1 : Int) (a0_2 : Int) (a0_3 : Int) (a0_4 : Int) (a0_5 : Int) (a0_6 : Int) (a0_7 : Bool) (a0_8 : List (Int × List UInt8)) : Option (Bool) :=
  cond (decide (a0_4 < 0))
    (some (false))
    (cond (decide (a0_4 > 4096))
      (some (false))
      (cond (decide (a0_6 < 0))
        (some (false))
        (cond (decide ((↑a0_8.length : Int) > 32))
          (some (false))
          (cond (a0_4 == 0)
            (cond (a0_5 != 0)
              (some (false))
              (cond (decide (a0_4 > 0))
                (cond (decide (a0_5 < 1))
                  (some (false))
                  (cond (decide (a0_5 > a0_3))
                    (some (false))
                    (Option.bind (h47_0 ((if true = true then if 1 > a0_5 then 1 else a0_5 else if 1 < a0_5 then 1 else a0_5, a0_8, (↑a0_8.length : Int), 0), a0_0, a0_1, a0_2, a0_3, a0_4, a0_5, a0_6, a0_7, a0_8)) fun v1 =>
                    match v1 with
                    | .inl x2 =>
                      some (true)
                    | .inr x2 =>
                      some (x2))))
                (Option.bind (h47_0 ((if true = true then if 1 > a0_5 then 1 else a0_5 else if 1 < a0_5 then 1 else a0_5, a0_8, (↑a0_8.length : Int), 0), a0_0, a0_1, a0_2, a0_3, a0_4, a0_5, a0_6, a0_7, a0_8)) fun v3 =>
                match v3 with
                | .inl x4 =>
                  some (true)
                | .inr x4 =>
                  some (x4))))
            (cond (decide (a0_4 > 0))
              (cond (decide (a0_5 < 1))
                (some (false))
                (cond (decide (a0_5 > a0_3))
                  (some (false))
                  (Option.bind (h47_0 ((if true = true then if 1 > a0_5 then 1 else a0_5 else if 1 < a0_5 then 1 else a0_5, a0_8, (↑a0_8.length : Int), 0), a0_0, a0_1, a0_2, a0_3, a0_4, a0_5, a0_6, a0_7, a0_8)) fun v5 =>
                  match v5 with
                  | .inl x6 =>
                    some (true)
                  | .inr x6 =>
                    some (x6))))
              (Option.bind (h47_0 ((if true = true then if 1 > a0_5 then 1 else a0_5 else if 1 < a0_5 then 1 else a0_5, a0_8, (↑a0_8.length : Int), 0), a0_0, a0_1, a0_2, a0_3, a0_4, a0_5, a0_6, a0_7, a0_8)) fun v7 =>
              match v7 with
              | .inl x8 =>
                some (true)
              | .inr x8 =>
                some (x8)))))))
noncomputable def i47 : FI := ⟨ps47, .ty .b, fun (a0_0, a0_1, a0_2, a0_3, a0_4, a0_5, a0_6, a0_7, a0_8) => g47 a0_0 a0_1 a0_2 a0_3 a0_4 a0_5 a0_6 a0_7 a0_8⟩
theorem s47_0 : st47_0 = stepEval T Y env47 an lv47 (finO T true ps47 (.ty .b) Tryz.f47.results.toList) (loopAt c47 0) ns47_0 ex47_0 := by kernel_rfl
theorem e47 : (fun a => i47.G a) = fnEval T Y env47 an i47.ps i47.rs true Tryz.f47.results.toList lv47 c47 := by kernel_rfl
theorem lo47 : loopsOf c47 = [loopAt c47 0] := by kernel_rfl
theorem ll47 : LoopsOk T Y env47 an lv47 (finO T true ps47 (.ty .b) Tryz.f47.results.toList) c47 := loopsOk_of (by rw [lo47]; exact ⟨loop1 (li := l47_0) (by kernel_rfl) (by kernel_rfl) s47_0, trivial⟩)
theorem k47 : FnOk Tryz.prog 47 i47 :=
  fn_ok (T := T) (Y := Y) (an := an) (env := env47) (fr := true) (lenv := lv47) mixed tok.1 tok.2 (envNil) (fn := Tryz.f47) (c := c47) (by kernel_rfl) (by kernel_rfl) (by kernel_rfl) ll47 (fun a => congrFun e47 a)
/-! ### broker/replica.conflict -/
noncomputable def c75 : Code := Tryz.f75.body.getD .skip
noncomputable def env75 : Env := mkEnv []
abbrev ps75 : List PSh := [.d (.sl (.st (.pr (.i .i64) .s))), .d QS5]
abbrev D75 : Type := pairD (.tup (.pr (.ty (.i .i64)) (.ty .b))) (osOf ps75)
def ns75_0 : NS := { slots := [(3, .pt 3 []), (0, .ty (.sl (.st (.pr (.i .i64) .s)))), (10, .ty (.sl (.st (.pr (.i .i64) .s)))), (11, .ty (.i .i64)), (12, .ty (.i .i64))], roots := [(3, .ty QS5)] }
def ex75_0 : List (Nat × NS) := [(0, { slots := [(3, .pt 3 [])], roots := [(3, .ty QS5)] })]
noncomputable def st75_0 (ih : (((List (Int × List UInt8)) × (List (Int × List UInt8)) × Int × Int) × QT2) → Option (((Unit) × QT2) ⊕ ((Int × Bool)))) : (((List (Int × List UInt8)) × (List (Int × List UInt8)) × Int × Int) × QT2) → Option (((Unit) × QT2) ⊕ ((Int × Bool))) := fun ((t0, t10, t11, t12), (r3_0, r3_1, r3_2, r3_3, r3_4, r3_5, r3_6, r3_7, r3_8)) =>
  cond (decide (t12 < t11))
    (cond (decide (0 ≤ t12) && decide (t12 < (↑t10.length : Int)))
      (cond (decide (IntKind.i64.wrap (r3_4 + t12) ≥ (↑t0.length : Int)))
        (some (Sum.inr (t12, false)))
        (cond (decide (0 ≤ IntKind.i64.wrap (r3_4 + t12)) && decide (IntKind.i64.wrap (r3_4 + t12) < (↑t0.length : Int)))
          (cond ((t0.getD (IntKind.i64.wrap (r3_4 + t12)).toNat (0, [])).1 != (t10.getD t12.toNat (0, [])).1)
            (some (Sum.inr (t12, true)))
            (ih ((t0, t10, t11, IntKind.i64.wrap (t12 + 1)), r3_0, r3_1, r3_2, r3_3, r3_4, r3_5, r3_6, r3_7, r3_8)))
          (none)))
      (none))
    (some (Sum.inl ((), r3_0, r3_1, r3_2, r3_3, r3_4, r3_5, r3_6, r3_7, r3_8)))
noncomputable def h75_0 : (((List (Int × List UInt8)) × (List (Int × List UInt8)) × Int × Int) × QT2) → Option (((Unit) × QT2) ⊕ ((Int × Bool))) := loopN st75_0 fuel
noncomputable def l75_0 : LI D75 := ⟨ns75_0, ex75_0, h75_0⟩
noncomputable def lv75 : Nat → Option (LI D75) := fun q => if q = 2 then some l75_0 else (fun _ => none) q
noncomputable def g75 (a0 : List (Int × List UInt8)) (a1_0 : Int) (a1_1 : Int) (a1_2 : Int) (a1_3 : Int) (a1_4 : Int) (a1_5 : Int) (a1_6 : Int) (a1_7 : Bool) (a1_8 : List (Int × List UInt8)) : Option (Int × Bool) :=
  Option.bind (h75_0 ((a0, a1_8, (↑a1_8.length : Int), 0), a1_0, a1_1, a1_2, a1_3, a1_4, a1_5, a1_6, a1_7, a1_8)) fun v1 =>
  match v1 with
  | .inl x2 =>
    some (((↑(List.length x2.2.2.2.2.2.2.2.2.2) : Int), false))
  | .inr x2 =>
    some (x2)
noncomputable def i75 : FI := ⟨ps75, .tup (.pr (.ty (.i .i64)) (.ty .b)), fun (a0, (a1_0, a1_1, a1_2, a1_3, a1_4, a1_5, a1_6, a1_7, a1_8)) => g75 a0 a1_0 a1_1 a1_2 a1_3 a1_4 a1_5 a1_6 a1_7 a1_8⟩
theorem s75_0 : st75_0 = stepEval T Y env75 an lv75 (finO T true ps75 (.tup (.pr (.ty (.i .i64)) (.ty .b))) Tryz.f75.results.toList) (loopAt c75 0) ns75_0 ex75_0 := by kernel_rfl
theorem e75 : (fun a => i75.G a) = fnEval T Y env75 an i75.ps i75.rs true Tryz.f75.results.toList lv75 c75 := by kernel_rfl
theorem lo75 : loopsOf c75 = [loopAt c75 0] := by kernel_rfl
theorem ll75 : LoopsOk T Y env75 an lv75 (finO T true ps75 (.tup (.pr (.ty (.i .i64)) (.ty .b))) Tryz.f75.results.toList) c75 := loopsOk_of (by rw [lo75]; exact ⟨loop1 (li := l75_0) (by kernel_rfl) (by kernel_rfl) s75_0, trivial⟩)
theorem k75 : FnOk Tryz.prog 75 i75 :=
  fn_ok (T := T) (Y := Y) (an := an) (env := env75) (fr := true) (lenv := lv75) mixed tok.1 tok.2 (envNil) (fn := Tryz.f75) (c := c75) (by kernel_rfl) (by kernel_rfl) (by kernel_rfl) ll75 (fun a => congrFun e75 a)
end Go.Proofs.YtfadalgikdffeaaGreat.EVT
