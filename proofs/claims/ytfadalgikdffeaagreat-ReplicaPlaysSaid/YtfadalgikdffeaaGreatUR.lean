/- What functions compute, as printed (U, part R). -/
import Derived.Test.YtfadalgikdffeaaGreatUP
set_option linter.unusedVariables false
set_option maxRecDepth 100000
set_option maxHeartbeats 0
namespace Go.Proofs.YtfadalgikdffeaaGreat.EVT
open Go Go.EV
/-! ### broker/brokerref41.Clone -/
noncomputable def c36 : Code := Tryz.f36.body.getD .skip
noncomputable def env36 : Env := mkEnv [(68, i68), (56, i56), (64, i64)]
abbrev ps36 : List PSh := [.d QS1]
abbrev D36 : Type := pairD (.ag (.pr (.ty QS6) (.pr (.ty (.i .i64)) (.pr (.ow 2 (.st (.pr (.i .i64) .s))) (.ow 1 (.i .i64)))))) (osOf ps36)
noncomputable def lv36 : Nat → Option (LI D36) := fun _ => none
noncomputable def g36 (a0_0_0 : Int) (a0_0_1 : Int) (a0_0_2 : Int) (a0_0_3 : Int) (a0_0_4 : Int) (a0_0_5 : Int) (a0_0_6 : List Int) (a0_1 : Int) (a0_2 : List (Int × List UInt8)) (a0_3 : List Int) : Option ((Int × Int × Int × Int × Int × Int × List Int) × Int × (List (Int × List UInt8)) × List Int) :=
  Option.bind (g68 a0_0_0 a0_0_1 a0_0_2 a0_0_3 a0_0_4 a0_0_5 a0_0_6) fun v1 =>
  Option.bind (g56 a0_2) fun v2 =>
  Option.bind (g64 a0_3) fun v3 =>
  some ((v1, a0_1, v2, v3))
noncomputable def i36 : FI := ⟨ps36, .ag (.pr (.ty QS6) (.pr (.ty (.i .i64)) (.pr (.ow 2 (.st (.pr (.i .i64) .s))) (.ow 1 (.i .i64))))), fun ((a0_0_0, a0_0_1, a0_0_2, a0_0_3, a0_0_4, a0_0_5, a0_0_6), a0_1, a0_2, a0_3) => g36 a0_0_0 a0_0_1 a0_0_2 a0_0_3 a0_0_4 a0_0_5 a0_0_6 a0_1 a0_2 a0_3⟩
theorem e36 : (fun a => i36.G a) = fnEval T Y env36 (zapA an [(4, 1, [0])]) i36.ps i36.rs false Tryz.f36.results.toList lv36 c36 := by kernel_rfl
theorem lo36 : loopsOf c36 = [] := by kernel_rfl
theorem ll36 : LoopsOk T Y env36 (zapA an [(4, 1, [0])]) lv36 (finO T false ps36 (.ag (.pr (.ty QS6) (.pr (.ty (.i .i64)) (.pr (.ow 2 (.st (.pr (.i .i64) .s))) (.ow 1 (.i .i64)))))) Tryz.f36.results.toList) c36 := loopsOk_of (by rw [lo36]; exact trivial)
theorem k36 : FnOk Tryz.prog 36 i36 :=
  fn_ok (T := T) (Y := Y) (an := zapA an [(4, 1, [0])]) (env := env36) (fr := false) (lenv := lv36) mixed tok.1 tok.2 (envCons k68 (envCons k56 (envCons k64 (envNil)))) (fn := Tryz.f36) (c := c36) (by kernel_rfl) (by kernel_rfl) (by kernel_rfl) ll36 (fun a => congrFun e36 a)
/-! ### broker/brokerref41.settled -/
noncomputable def c38 : Code := Tryz.f38.body.getD .skip
noncomputable def env38 : Env := mkEnv [(27, i27)]
abbrev ps38 : List PSh := [.ow (.ag (.pr (.ty QS6) (.pr (.ty (.i .i64)) (.pr (.ow 2 (.st (.pr (.i .i64) .s))) (.ow 1 (.i .i64)))))), .d .b]
abbrev D38 : Type := pairD (.ag (.pr (.ty QS6) (.pr (.ty (.i .i64)) (.pr (.ow 2 (.st (.pr (.i .i64) .s))) (.ow 1 (.i .i64)))))) (osOf ps38)
noncomputable def lv38 : Nat → Option (LI D38) := fun _ => none
noncomputable def g38 (a0_0_0 : Int) (a0_0_1 : Int) (a0_0_2 : Int) (a0_0_3 : Int) (a0_0_4 : Int) (a0_0_5 : Int) (a0_0_6 : List Int) (a0_1 : Int) (a0_2 : List (Int × List UInt8)) (a0_3 : List Int) (a1 : Bool) : Option ((Int × Int × Int × Int × Int × Int × List Int) × Int × (List (Int × List UInt8)) × List Int) :=
  Option.bind (g27 a0_0_0 a0_0_1 a0_0_2 a0_0_3 a0_0_4 a0_0_5 a0_0_6 a0_1 a0_2 a0_3) fun v1 =>
  cond (!v1)
    (some (((a0_0_0, a0_0_1, a0_0_2, a0_0_3, a0_0_4, a0_0_5, a0_0_6), a0_1, a0_2, [])))
    (cond (!a1)
      (cond (decide (0 ≤ a0_0_1) && decide (a0_0_1 ≤ a0_0_1) && decide (a0_0_1 ≤ 2147483647))
        (cond (decide (0 ≤ a0_0_0) && decide (a0_0_0 < (↑(List.replicate a0_0_1.toNat (0 : Int)).length : Int)))
          (cond (decide (a0_0_0.toNat < (List.replicate a0_0_1.toNat (0 : Int)).length))
            (some (((a0_0_0, a0_0_1, a0_0_2, a0_0_3, a0_0_4, a0_0_5, a0_0_6), a0_1, a0_2, (List.replicate a0_0_1.toNat 0).set a0_0_0.toNat (↑a0_2.length : Int))))
            (none))
          (none))
        (none))
      (some (((a0_0_0, a0_0_1, a0_0_2, a0_0_3, a0_0_4, a0_0_5, a0_0_6), a0_1, a0_2, a0_3))))
noncomputable def i38 : FI := ⟨ps38, .ag (.pr (.ty QS6) (.pr (.ty (.i .i64)) (.pr (.ow 2 (.st (.pr (.i .i64) .s))) (.ow 1 (.i .i64))))), fun (((a0_0_0, a0_0_1, a0_0_2, a0_0_3, a0_0_4, a0_0_5, a0_0_6), a0_1, a0_2, a0_3), a1) => g38 a0_0_0 a0_0_1 a0_0_2 a0_0_3 a0_0_4 a0_0_5 a0_0_6 a0_1 a0_2 a0_3 a1⟩
theorem e38 : (fun a => i38.G a) = fnEval T Y env38 an i38.ps i38.rs false Tryz.f38.results.toList lv38 c38 := by kernel_rfl
theorem lo38 : loopsOf c38 = [] := by kernel_rfl
theorem ll38 : LoopsOk T Y env38 an lv38 (finO T false ps38 (.ag (.pr (.ty QS6) (.pr (.ty (.i .i64)) (.pr (.ow 2 (.st (.pr (.i .i64) .s))) (.ow 1 (.i .i64)))))) Tryz.f38.results.toList) c38 := loopsOk_of (by rw [lo38]; exact trivial)
theorem k38 : FnOk Tryz.prog 38 i38 :=
  fn_ok (T := T) (Y := Y) (an := an) (env := env38) (fr := false) (lenv := lv38) mixed tok.1 tok.2 (envCons k27 (envNil)) (fn := Tryz.f38) (c := c38) (by kernel_rfl) (by kernel_rfl) (by kernel_rfl) ll38 (fun a => congrFun e38 a)
/-! ### broker/brokerref41.Timeout -/
noncomputable def c9 : Code := Tryz.f9.body.getD .skip
noncomputable def env9 : Env := mkEnv [(36, i36), (27, i27), (26, i26), (37, i37), (38, i38)]
abbrev ps9 : List PSh := [.d QS1]
abbrev D9 : Type := pairD (.tup (.pr (.ty QS1) (.ty QS4))) (osOf ps9)
noncomputable def lv9 : Nat → Option (LI D9) := fun _ => none
noncomputable def g9 (a0_0_0 : Int) (a0_0_1 : Int) (a0_0_2 : Int) (a0_0_3 : Int) (a0_0_4 : Int) (a0_0_5 : Int) (a0_0_6 : List Int) (a0_1 : Int) (a0_2 : List (Int × List UInt8)) (a0_3 : List Int) : Option (((Int × Int × Int × Int × Int × Int × List Int) × Int × List (Int × List UInt8) × List Int) × List QT2) :=
  Option.bind (g36 a0_0_0 a0_0_1 a0_0_2 a0_0_3 a0_0_4 a0_0_5 a0_0_6 a0_1 a0_2 a0_3) fun v1 =>
  Option.bind (g27 a0_0_0 a0_0_1 a0_0_2 a0_0_3 a0_0_4 a0_0_5 a0_0_6 a0_1 a0_2 a0_3) fun v2 =>
  cond (v2)
    (some ((v1, [])))
    (Option.bind (g26 a0_2 (↑a0_2.length : Int)) fun v3 =>
    Option.bind (g37 a0_0_0 a0_0_1 a0_0_2 a0_0_3 a0_0_4 a0_0_5 a0_0_6 (↑a0_2.length : Int) v3) fun v4 =>
    Option.bind (g38 v4.1.1 v4.1.2.1 v4.1.2.2.1 v4.1.2.2.2.1 v4.1.2.2.2.2.1 v4.1.2.2.2.2.2.1 v4.1.2.2.2.2.2.2 v1.2.1 v1.2.2.1 v1.2.2.2 false) fun v5 =>
    some ((v5, v4.2)))
noncomputable def i9 : FI := ⟨ps9, .tup (.pr (.ty QS1) (.ty QS4)), fun ((a0_0_0, a0_0_1, a0_0_2, a0_0_3, a0_0_4, a0_0_5, a0_0_6), a0_1, a0_2, a0_3) => g9 a0_0_0 a0_0_1 a0_0_2 a0_0_3 a0_0_4 a0_0_5 a0_0_6 a0_1 a0_2 a0_3⟩
theorem e9 : (fun a => i9.G a) = fnEval T Y env9 an i9.ps i9.rs true Tryz.f9.results.toList lv9 c9 := by kernel_rfl
theorem lo9 : loopsOf c9 = [] := by kernel_rfl
theorem ll9 : LoopsOk T Y env9 an lv9 (finO T true ps9 (.tup (.pr (.ty QS1) (.ty QS4))) Tryz.f9.results.toList) c9 := loopsOk_of (by rw [lo9]; exact trivial)
theorem k9 : FnOk Tryz.prog 9 i9 :=
  fn_ok (T := T) (Y := Y) (an := an) (env := env9) (fr := true) (lenv := lv9) mixed tok.1 tok.2 (envCons k36 (envCons k27 (envCons k26 (envCons k37 (envCons k38 (envNil)))))) (fn := Tryz.f9) (c := c9) (by kernel_rfl) (by kernel_rfl) (by kernel_rfl) ll9 (fun a => congrFun e9 a)
/-! ### broker/brokerref41.Beat -/
noncomputable def c19 : Code := Tryz.f19.body.getD .skip
noncomputable def env19 : Env := mkEnv [(27, i27), (26, i26), (56, i56000)]
abbrev ps19 : List PSh := [.d QS1]
abbrev D19 : Type := pairD (.ty QS4) (osOf ps19)
def ns19_0 : NS := { slots := [(1, .pt 1 []), (3, .hw 53), (11, .ty (.i .i64)), (12, .ty (.i .i64))], roots := [(53, .ar 9 QS5), (1, .ty QS1)], ad := [{ t := 3, path := [], g := 53, d := 9, τ := (QS5 : Ty) }] }
def ex19_0 : List (Nat × NS) := [(0, { slots := [(3, .hw 53)], roots := [(53, .ar 9 QS5)] })]
noncomputable def st19_0 (ih : ((Int × Int) × ((List QT2) × (Int × Int × Int × Int × Int × Int × List Int) × Int × List (Int × List UInt8) × List Int)) → Option (((Unit) × (List QT2)) ⊕ ((List QT2)))) : ((Int × Int) × ((List QT2) × (Int × Int × Int × Int × Int × Int × List Int) × Int × List (Int × List UInt8) × List Int)) → Option (((Unit) × (List QT2)) ⊕ ((List QT2))) := fun ((t11, t12), (r53, ((r1_0_0, r1_0_1, r1_0_2, r1_0_3, r1_0_4, r1_0_5, r1_0_6), r1_1, r1_2, r1_3))) =>
  cond (decide (t12 < t11))
    (cond (t12 == r1_0_0)
      (ih ((t11, IntKind.i64.wrap (t12 + 1)), r53, (r1_0_0, r1_0_1, r1_0_2, r1_0_3, r1_0_4, r1_0_5, r1_0_6), r1_1, r1_2, r1_3))
      (cond (decide (0 ≤ t12) && decide (t12 < (↑r1_3.length : Int)))
        (Option.bind (g26 r1_2 (r1_3.getD t12.toNat 0)) fun v1 =>
        cond (decide (0 ≤ if false = true then if (↑r1_2.length : Int) > IntKind.i64.wrap (r1_3.getD t12.toNat 0 + 32) then (↑r1_2.length : Int) else IntKind.i64.wrap (r1_3.getD t12.toNat 0 + 32) else if (↑r1_2.length : Int) < IntKind.i64.wrap (r1_3.getD t12.toNat 0 + 32) then (↑r1_2.length : Int) else IntKind.i64.wrap (r1_3.getD t12.toNat 0 + 32)) && decide ((if false = true then if (↑r1_2.length : Int) > IntKind.i64.wrap (r1_3.getD t12.toNat 0 + 32) then (↑r1_2.length : Int) else IntKind.i64.wrap (r1_3.getD t12.toNat 0 + 32) else if (↑r1_2.length : Int) < IntKind.i64.wrap (r1_3.getD t12.toNat 0 + 32) then (↑r1_2.length : Int) else IntKind.i64.wrap (r1_3.getD t12.toNat 0 + 32)) ≤ (↑r1_2.length : Int)) && (decide (0 ≤ r1_3.getD t12.toNat 0) && decide (r1_3.getD t12.toNat 0 ≤ if false = true then if (↑r1_2.length : Int) > IntKind.i64.wrap (r1_3.getD t12.toNat 0 + 32) then (↑r1_2.length : Int) else IntKind.i64.wrap (r1_3.getD t12.toNat 0 + 32) else if (↑r1_2.length : Int) < IntKind.i64.wrap (r1_3.getD t12.toNat 0 + 32) then (↑r1_2.length : Int) else IntKind.i64.wrap (r1_3.getD t12.toNat 0 + 32))) && true)
          (Option.bind (g56000 (List.drop (r1_3.getD t12.toNat 0).toNat (List.take (if false = true then if (↑r1_2.length : Int) > IntKind.i64.wrap (r1_3.getD t12.toNat 0 + 32) then (↑r1_2.length : Int) else IntKind.i64.wrap (r1_3.getD t12.toNat 0 + 32) else if (↑r1_2.length : Int) < IntKind.i64.wrap (r1_3.getD t12.toNat 0 + 32) then (↑r1_2.length : Int) else IntKind.i64.wrap (r1_3.getD t12.toNat 0 + 32)).toNat r1_2))) fun v2 =>
          cond (decide (r53.length + 1 ≤ 2147483647))
            (ih ((t11, IntKind.i64.wrap (t12 + 1)), r53 ++ [(3, r1_0_0, t12, r1_0_2, r1_3.getD t12.toNat 0, v1, r1_1, false, v2)], (r1_0_0, r1_0_1, r1_0_2, r1_0_3, r1_0_4, r1_0_5, r1_0_6), r1_1, r1_2, r1_3))
            (none))
          (none))
        (none)))
    (some (Sum.inl ((), r53)))
noncomputable def h19_0 : ((Int × Int) × ((List QT2) × (Int × Int × Int × Int × Int × Int × List Int) × Int × List (Int × List UInt8) × List Int)) → Option (((Unit) × (List QT2)) ⊕ ((List QT2))) := loopN st19_0 fuel
noncomputable def l19_0 : LI D19 := ⟨ns19_0, ex19_0, h19_0⟩
noncomputable def lv19 : Nat → Option (LI D19) := fun q => if q = 5 then some l19_0 else (fun _ => none) q
noncomputable def g19 (a0_0_0 : Int) (a0_0_1 : Int) (a0_0_2 : Int) (a0_0_3 : Int) (a0_0_4 : Int) (a0_0_5 : Int) (a0_0_6 : List Int) (a0_1 : Int) (a0_2 : List (Int × List UInt8)) (a0_3 : List Int) : Option (List QT2) :=
  Option.bind (g27 a0_0_0 a0_0_1 a0_0_2 a0_0_3 a0_0_4 a0_0_5 a0_0_6 a0_1 a0_2 a0_3) fun v1 =>
  cond (!v1)
    (some ([]))
    (Option.bind (h19_0 ((a0_0_1, 0), [], (a0_0_0, a0_0_1, a0_0_2, a0_0_3, a0_0_4, a0_0_5, a0_0_6), a0_1, a0_2, a0_3)) fun v2 =>
    match v2 with
    | .inl x3 =>
      some (x3.2)
    | .inr x3 =>
      some (x3))
noncomputable def i19 : FI := ⟨ps19, .ty QS4, fun ((a0_0_0, a0_0_1, a0_0_2, a0_0_3, a0_0_4, a0_0_5, a0_0_6), a0_1, a0_2, a0_3) => g19 a0_0_0 a0_0_1 a0_0_2 a0_0_3 a0_0_4 a0_0_5 a0_0_6 a0_1 a0_2 a0_3⟩
theorem s19_0 : st19_0 = stepEval T Y env19 an lv19 (finO T true ps19 (.ty QS4) Tryz.f19.results.toList) (loopAt c19 0) ns19_0 ex19_0 := by kernel_rfl
theorem e19 : (fun a => i19.G a) = fnEval T Y env19 an i19.ps i19.rs true Tryz.f19.results.toList lv19 c19 := by kernel_rfl
theorem lo19 : loopsOf c19 = [loopAt c19 0] := by kernel_rfl
theorem ll19 : LoopsOk T Y env19 an lv19 (finO T true ps19 (.ty QS4) Tryz.f19.results.toList) c19 := loopsOk_of (by rw [lo19]; exact ⟨loop1 (li := l19_0) (by kernel_rfl) (by kernel_rfl) s19_0, trivial⟩)
theorem k19 : FnOk Tryz.prog 19 i19 :=
  fn_ok (T := T) (Y := Y) (an := an) (env := env19) (fr := true) (lenv := lv19) mixed tok.1 tok.2 (envCons k27 (envCons k26 (envCons k56000 (envNil)))) (fn := Tryz.f19) (c := c19) (by kernel_rfl) (by kernel_rfl) (by kernel_rfl) ll19 (fun a => congrFun e19 a)
/-! ### broker/brokerref41.commit -/
noncomputable def c40 : Code := Tryz.f40.body.getD .skip
noncomputable def env40 : Env := mkEnv [(26, i26), (72, i72)]
abbrev ps40 : List PSh := [.d QS1]
abbrev D40 : Type := pairD (.ty QS1) (osOf ps40)
def ns40_1 : NS := { slots := [(1, .pt 1 []), (2, .pt 2 []), (3, .ty (.i .i64)), (4, .ty (.i .i64)), (17, .ty (.sl (.i .i64))), (18, .ty (.i .i64)), (19, .ty (.i .i64))], roots := [(2, .ty QS1), (1, .ty QS1)] }
def ex40_1 : List (Nat × NS) := [(2, { slots := [(1, .pt 1 []), (2, .pt 2 []), (3, .ty (.i .i64)), (4, .ty (.i .i64))], roots := [(2, .ty QS1), (1, .ty QS1)] })]
noncomputable def st40_1 (ih : ((Int × Int × List Int × Int × Int) × (((Int × Int × Int × Int × Int × Int × List Int) × Int × List (Int × List UInt8) × List Int) × (Int × Int × Int × Int × Int × Int × List Int) × Int × List (Int × List UInt8) × List Int)) → Option (((Int × Int) × (((Int × Int × Int × Int × Int × Int × List Int) × Int × List (Int × List UInt8) × List Int) × (Int × Int × Int × Int × Int × Int × List Int) × Int × List (Int × List UInt8) × List Int)) ⊕ (((Int × Int × Int × Int × Int × Int × List Int) × Int × List (Int × List UInt8) × List Int)))) : ((Int × Int × List Int × Int × Int) × (((Int × Int × Int × Int × Int × Int × List Int) × Int × List (Int × List UInt8) × List Int) × (Int × Int × Int × Int × Int × Int × List Int) × Int × List (Int × List UInt8) × List Int)) → Option (((Int × Int) × (((Int × Int × Int × Int × Int × Int × List Int) × Int × List (Int × List UInt8) × List Int) × (Int × Int × Int × Int × Int × Int × List Int) × Int × List (Int × List UInt8) × List Int)) ⊕ (((Int × Int × Int × Int × Int × Int × List Int) × Int × List (Int × List UInt8) × List Int))) := fun ((t3, t4, t17, t18, t19), (((r2_0_0, r2_0_1, r2_0_2, r2_0_3, r2_0_4, r2_0_5, r2_0_6), r2_1, r2_2, r2_3), ((r1_0_0, r1_0_1, r1_0_2, r1_0_3, r1_0_4, r1_0_5, r1_0_6), r1_1, r1_2, r1_3))) =>
  cond (decide (t19 < t18))
    (cond (decide (0 ≤ t19) && decide (t19 < (↑t17.length : Int)))
      (cond (decide (t17.getD t19.toNat 0 ≥ t3))
        (ih ((t3, IntKind.i64.wrap (t4 + 1), t17, t18, IntKind.i64.wrap (t19 + 1)), ((r2_0_0, r2_0_1, r2_0_2, r2_0_3, r2_0_4, r2_0_5, r2_0_6), r2_1, r2_2, r2_3), (r1_0_0, r1_0_1, r1_0_2, r1_0_3, r1_0_4, r1_0_5, r1_0_6), r1_1, r1_2, r1_3))
        (ih ((t3, t4, t17, t18, IntKind.i64.wrap (t19 + 1)), ((r2_0_0, r2_0_1, r2_0_2, r2_0_3, r2_0_4, r2_0_5, r2_0_6), r2_1, r2_2, r2_3), (r1_0_0, r1_0_1, r1_0_2, r1_0_3, r1_0_4, r1_0_5, r1_0_6), r1_1, r1_2, r1_3)))
      (none))
    (some (Sum.inl ((t3, t4), ((r2_0_0, r2_0_1, r2_0_2, r2_0_3, r2_0_4, r2_0_5, r2_0_6), r2_1, r2_2, r2_3), (r1_0_0, r1_0_1, r1_0_2, r1_0_3, r1_0_4, r1_0_5, r1_0_6), r1_1, r1_2, r1_3)))
noncomputable def h40_1 : ((Int × Int × List Int × Int × Int) × (((Int × Int × Int × Int × Int × Int × List Int) × Int × List (Int × List UInt8) × List Int) × (Int × Int × Int × Int × Int × Int × List Int) × Int × List (Int × List UInt8) × List Int)) → Option (((Int × Int) × (((Int × Int × Int × Int × Int × Int × List Int) × Int × List (Int × List UInt8) × List Int) × (Int × Int × Int × Int × Int × Int × List Int) × Int × List (Int × List UInt8) × List Int)) ⊕ (((Int × Int × Int × Int × Int × Int × List Int) × Int × List (Int × List UInt8) × List Int))) := loopN st40_1 fuel
noncomputable def l40_1 : LI D40 := ⟨ns40_1, ex40_1, h40_1⟩
def ns40_0 : NS := { slots := [(1, .pt 1 []), (2, .pt 2 []), (3, .ty (.i .i64))], roots := [(2, .ty QS1), (1, .ty QS1)] }
def ex40_0 : List (Nat × NS) := [(0, { slots := [(1, .pt 1 []), (2, .pt 2 [])], roots := [(2, .ty QS1), (1, .ty QS1)] })]
noncomputable def st40_0 (ih : ((Int) × (((Int × Int × Int × Int × Int × Int × List Int) × Int × List (Int × List UInt8) × List Int) × (Int × Int × Int × Int × Int × Int × List Int) × Int × List (Int × List UInt8) × List Int)) → Option (((Unit) × (((Int × Int × Int × Int × Int × Int × List Int) × Int × List (Int × List UInt8) × List Int) × (Int × Int × Int × Int × Int × Int × List Int) × Int × List (Int × List UInt8) × List Int)) ⊕ (((Int × Int × Int × Int × Int × Int × List Int) × Int × List (Int × List UInt8) × List Int)))) : ((Int) × (((Int × Int × Int × Int × Int × Int × List Int) × Int × List (Int × List UInt8) × List Int) × (Int × Int × Int × Int × Int × Int × List Int) × Int × List (Int × List UInt8) × List Int)) → Option (((Unit) × (((Int × Int × Int × Int × Int × Int × List Int) × Int × List (Int × List UInt8) × List Int) × (Int × Int × Int × Int × Int × Int × List Int) × Int × List (Int × List UInt8) × List Int)) ⊕ (((Int × Int × Int × Int × Int × Int × List Int) × Int × List (Int × List UInt8) × List Int))) := fun (t3, (((r2_0_0, r2_0_1, r2_0_2, r2_0_3, r2_0_4, r2_0_5, r2_0_6), r2_1, r2_2, r2_3), ((r1_0_0, r1_0_1, r1_0_2, r1_0_3, r1_0_4, r1_0_5, r1_0_6), r1_1, r1_2, r1_3))) =>
  cond (decide (t3 > r1_1))
    (Option.bind (h40_1 ((t3, 0, r1_3, (↑r1_3.length : Int), 0), ((r2_0_0, r2_0_1, r2_0_2, r2_0_3, r2_0_4, r2_0_5, r2_0_6), r2_1, r2_2, r2_3), (r1_0_0, r1_0_1, r1_0_2, r1_0_3, r1_0_4, r1_0_5, r1_0_6), r1_1, r1_2, r1_3)) fun v1 =>
    match v1 with
    | .inl x2 =>
      Option.bind (g26 x2.2.2.2.2.1 x2.1.1) fun v3 =>
      cond (v3 == x2.2.2.1.2.2.1)
        (Option.bind (g72 x2.1.2 x2.2.2.1.2.1) fun v4 =>
        cond (v4)
          (some (Sum.inl ((), x2.2.1, x2.2.2.1, x2.1.1, x2.2.2.2.2)))
          (ih (IntKind.i64.wrap (x2.1.1 - 1), x2.2)))
        (ih (IntKind.i64.wrap (x2.1.1 - 1), x2.2))
    | .inr x2 =>
      some (Sum.inr x2))
    (some (Sum.inl ((), ((r2_0_0, r2_0_1, r2_0_2, r2_0_3, r2_0_4, r2_0_5, r2_0_6), r2_1, r2_2, r2_3), (r1_0_0, r1_0_1, r1_0_2, r1_0_3, r1_0_4, r1_0_5, r1_0_6), r1_1, r1_2, r1_3)))
noncomputable def h40_0 : ((Int) × (((Int × Int × Int × Int × Int × Int × List Int) × Int × List (Int × List UInt8) × List Int) × (Int × Int × Int × Int × Int × Int × List Int) × Int × List (Int × List UInt8) × List Int)) → Option (((Unit) × (((Int × Int × Int × Int × Int × Int × List Int) × Int × List (Int × List UInt8) × List Int) × (Int × Int × Int × Int × Int × Int × List Int) × Int × List (Int × List UInt8) × List Int)) ⊕ (((Int × Int × Int × Int × Int × Int × List Int) × Int × List (Int × List UInt8) × List Int))) := loopN st40_0 fuel
noncomputable def l40_0 : LI D40 := ⟨ns40_0, ex40_0, h40_0⟩
noncomputable def lv40 : Nat → Option (LI D40) := fun q => if q = 2 then some l40_0 else (fun q => if q = 6 then some l40_1 else (fun _ => none) q) q
noncomputable def g40 (a0_0_0 : Int) (a0_0_1 : Int) (a0_0_2 : Int) (a0_0_3 : Int) (a0_0_4 : Int) (a0_0_5 : Int) (a0_0_6 : List Int) (a0_1 : Int) (a0_2 : List (Int × List UInt8)) (a0_3 : List Int) : Option ((Int × Int × Int × Int × Int × Int × List Int) × Int × List (Int × List UInt8) × List Int) :=
  Option.bind (h40_0 ((↑a0_2.length : Int), ((0, 0, 0, 0, 0, 0, []), 0, [], []), (a0_0_0, a0_0_1, a0_0_2, a0_0_3, a0_0_4, a0_0_5, a0_0_6), a0_1, a0_2, a0_3)) fun v1 =>
  match v1 with
  | .inl x2 =>
    some (x2.2.2)
  | .inr x2 =>
    some (x2)
noncomputable def i40 : FI := ⟨ps40, .ty QS1, fun ((a0_0_0, a0_0_1, a0_0_2, a0_0_3, a0_0_4, a0_0_5, a0_0_6), a0_1, a0_2, a0_3) => g40 a0_0_0 a0_0_1 a0_0_2 a0_0_3 a0_0_4 a0_0_5 a0_0_6 a0_1 a0_2 a0_3⟩
theorem s40_1 : st40_1 = stepEval T Y env40 an lv40 (finO T true ps40 (.ty QS1) Tryz.f40.results.toList) (loopAt c40 1) ns40_1 ex40_1 := by kernel_rfl
theorem s40_0 : st40_0 = stepEval T Y env40 an lv40 (finO T true ps40 (.ty QS1) Tryz.f40.results.toList) (loopAt c40 0) ns40_0 ex40_0 := by kernel_rfl
theorem e40 : (fun a => i40.G a) = fnEval T Y env40 an i40.ps i40.rs true Tryz.f40.results.toList lv40 c40 := by kernel_rfl
theorem lo40 : loopsOf c40 = [loopAt c40 0, loopAt c40 1] := by kernel_rfl
theorem ll40 : LoopsOk T Y env40 an lv40 (finO T true ps40 (.ty QS1) Tryz.f40.results.toList) c40 := loopsOk_of (by rw [lo40]; exact ⟨loop1 (li := l40_0) (by kernel_rfl) (by kernel_rfl) s40_0, ⟨loop1 (li := l40_1) (by kernel_rfl) (by kernel_rfl) s40_1, trivial⟩⟩)
theorem k40 : FnOk Tryz.prog 40 i40 :=
  fn_ok (T := T) (Y := Y) (an := an) (env := env40) (fr := true) (lenv := lv40) mixed tok.1 tok.2 (envCons k26 (envCons k72 (envNil))) (fn := Tryz.f40) (c := c40) (by kernel_rfl) (by kernel_rfl) (by kernel_rfl) ll40 (fun a => congrFun e40 a)
/-! ### broker/brokerref41.Propose -/
noncomputable def c11 : Code := Tryz.f11.body.getD .skip
noncomputable def env11 : Env := mkEnv [(27, i27), (36, i36), (40, i40)]
abbrev ps11 : List PSh := [.d QS1, .d .s]
abbrev D11 : Type := pairD (.tup (.pr (.ty QS1) (.pr (.ty (.i .i64)) (.ty (.i .i64))))) (osOf ps11)
noncomputable def lv11 : Nat → Option (LI D11) := fun _ => none
noncomputable def g11 (a0_0_0 : Int) (a0_0_1 : Int) (a0_0_2 : Int) (a0_0_3 : Int) (a0_0_4 : Int) (a0_0_5 : Int) (a0_0_6 : List Int) (a0_1 : Int) (a0_2 : List (Int × List UInt8)) (a0_3 : List Int) (a1 : List UInt8) : Option (((Int × Int × Int × Int × Int × Int × List Int) × Int × List (Int × List UInt8) × List Int) × Int × Int) :=
  Option.bind (g27 a0_0_0 a0_0_1 a0_0_2 a0_0_3 a0_0_4 a0_0_5 a0_0_6 a0_1 a0_2 a0_3) fun v1 =>
  cond (!v1)
    (some ((((0, 0, 0, 0, 0, 0, []), 0, [], []), 0, 24)))
    (cond (decide ((↑a1.length : Int) > 65536))
      (some ((((0, 0, 0, 0, 0, 0, []), 0, [], []), 0, 5)))
      (cond (decide ((↑a0_2.length : Int) ≥ 4096))
        (some ((((0, 0, 0, 0, 0, 0, []), 0, [], []), 0, 6)))
        (Option.bind (g36 a0_0_0 a0_0_1 a0_0_2 a0_0_3 a0_0_4 a0_0_5 a0_0_6 a0_1 a0_2 a0_3) fun v2 =>
        cond (decide (List.length v2.2.2.1 + 1 ≤ 2147483647))
          (cond (decide (0 ≤ a0_0_0) && decide (a0_0_0 < (↑(List.length v2.2.2.2) : Int)))
            (cond (decide (a0_0_0.toNat < List.length v2.2.2.2))
              (Option.bind (g40 v2.1.1 v2.1.2.1 v2.1.2.2.1 v2.1.2.2.2.1 v2.1.2.2.2.2.1 v2.1.2.2.2.2.2.1 v2.1.2.2.2.2.2.2 v2.2.1 (v2.2.2.1 ++ [(a0_0_2, a1)]) (List.set v2.2.2.2 a0_0_0.toNat (↑(v2.2.2.1 ++ [(a0_0_2, a1)]).length : Int))) fun v3 =>
              some ((v3, (↑(v2.2.2.1 ++ [(a0_0_2, a1)]).length : Int), 0)))
              (none))
            (none))
          (none))))
noncomputable def i11 : FI := ⟨ps11, .tup (.pr (.ty QS1) (.pr (.ty (.i .i64)) (.ty (.i .i64)))), fun (((a0_0_0, a0_0_1, a0_0_2, a0_0_3, a0_0_4, a0_0_5, a0_0_6), a0_1, a0_2, a0_3), a1) => g11 a0_0_0 a0_0_1 a0_0_2 a0_0_3 a0_0_4 a0_0_5 a0_0_6 a0_1 a0_2 a0_3 a1⟩
theorem e11 : (fun a => i11.G a) = fnEval T Y env11 (zapA an [(10, 7, [])]) i11.ps i11.rs true Tryz.f11.results.toList lv11 c11 := by kernel_rfl
theorem lo11 : loopsOf c11 = [] := by kernel_rfl
theorem ll11 : LoopsOk T Y env11 (zapA an [(10, 7, [])]) lv11 (finO T true ps11 (.tup (.pr (.ty QS1) (.pr (.ty (.i .i64)) (.ty (.i .i64))))) Tryz.f11.results.toList) c11 := loopsOk_of (by rw [lo11]; exact trivial)
theorem k11 : FnOk Tryz.prog 11 i11 :=
  fn_ok (T := T) (Y := Y) (an := zapA an [(10, 7, [])]) (env := env11) (fr := true) (lenv := lv11) mixed tok.1 tok.2 (envCons k27 (envCons k36 (envCons k40 (envNil)))) (fn := Tryz.f11) (c := c11) (by kernel_rfl) (by kernel_rfl) (by kernel_rfl) ll11 (fun a => congrFun e11 a)
/-! ### broker/brokerref41.Sound -/
noncomputable def c53 : Code := Tryz.f53.body.getD .skip
noncomputable def env53 : Env := mkEnv [(25, i25)]
abbrev ps53 : List PSh := [.d QS5]
abbrev D53 : Type := pairD (.ty .b) (osOf ps53)
def ns53_0 : NS := { slots := [(1, .pt 1 []), (3, .ty (.i .i64)), (46, .ty (.sl (.st (.pr (.i .i64) .s)))), (47, .ty (.i .i64)), (48, .ty (.i .i64))], roots := [(1, .ty QS5)] }
def ex53_0 : List (Nat × NS) := [(0, { slots := [], roots := [] })]
noncomputable def st53_0 (ih : ((Int × (List (Int × List UInt8)) × Int × Int) × QT2) → Option (((Unit) × (Unit)) ⊕ Bool)) : ((Int × (List (Int × List UInt8)) × Int × Int) × QT2) → Option (((Unit) × (Unit)) ⊕ Bool) := fun ((t3, t46, t47, t48), (r1_0, r1_1, r1_2, r1_3, r1_4, r1_5, r1_6, r1_7, r1_8)) =>
  cond (decide (t48 < t47))
    (cond (decide (0 ≤ t48) && decide (t48 < (↑t46.length : Int)))
      (Option.bind (g25 (t46.getD t48.toNat (0, [])).1 t3 r1_3) fun v1 =>
      cond (!v1)
        (some (Sum.inr false))
        (cond (decide ((↑(List.length (t46.getD t48.toNat (0, [])).2) : Int) > 65536))
          (some (Sum.inr false))
          (ih (((t46.getD t48.toNat (0, [])).1, t46, t47, IntKind.i64.wrap (t48 + 1)), r1_0, r1_1, r1_2, r1_3, r1_4, r1_5, r1_6, r1_7, r1_8))))
      (none))
    (some (Sum.inl ((), ())))
noncomputable def h53_0 : ((Int × (List (Int × List UInt8)) × Int × Int) × QT2) → Option (((Unit) × (Unit)) ⊕ Bool) := loopN st53_0 fuel
noncomputable def l53_0 : LI D53 := ⟨ns53_0, ex53_0, h53_0⟩
noncomputable def lv53 : Nat → Option (LI D53) := fun q => if q = 7 then some l53_0 else (fun _ => none) q
noncomputable def g53 (a0_0 : Int) (a0_1 : Int) (a0_2 : Int) (a0_3 : Int) (a0_4 : Int) (a0_5 : Int) (a0_6 : Int) (a0_7 : Bool) (a0_8 : List (Int × List UInt8)) : Option (Bool) :=
  Option.bind (g25 a0_4 0 4096) fun v1 =>
  cond (!v1)
    (some (false))
    (cond (decide (a0_6 < 0))
      (some (false))
      (cond (decide ((↑a0_8.length : Int) > 32))
        (some (false))
        (cond (a0_4 == 0)
          (cond (a0_5 != 0)
            (some (false))
            (cond (decide (a0_4 > 0))
              (Option.bind (g25 a0_5 1 a0_3) fun v2 =>
              cond (!v2)
                (some (false))
                (Option.bind (h53_0 ((if true = true then if 1 > a0_5 then 1 else a0_5 else if 1 < a0_5 then 1 else a0_5, a0_8, (↑a0_8.length : Int), 0), a0_0, a0_1, a0_2, a0_3, a0_4, a0_5, a0_6, a0_7, a0_8)) fun v3 =>
                match v3 with
                | .inl x4 =>
                  some (true)
                | .inr x4 =>
                  some (x4)))
              (Option.bind (h53_0 ((if true = true then if 1 > a0_5 then 1 else a0_5 else if 1 < a0_5 then 1 else a0_5, a0_8, (↑a0_8.length : Int), 0), a0_0, a0_1, a0_2, a0_3, a0_4, a0_5, a0_6, a0_7, a0_8)) fun v5 =>
              match v5 with
              | .inl x6 =>
                some (true)
              | .inr x6 =>
                some (x6))))
          (cond (decide (a0_4 > 0))
            (Option.bind (g25 a0_5 1 a0_3) fun v7 =>
            cond (!v7)
              (some (false))
              (Option.bind (h53_0 ((if true = true then if 1 > a0_5 then 1 else a0_5 else if 1 < a0_5 then 1 else a0_5, a0_8, (↑a0_8.length : Int), 0), a0_0, a0_1, a0_2, a0_3, a0_4, a0_5, a0_6, a0_7, a0_8)) fun v8 =>
              match v8 with
              | .inl x9 =>
                some (true)
              | .inr x9 =>
                some (x9)))
            (Option.bind (h53_0 ((if true = true then if 1 > a0_5 then 1 else a0_5 else if 1 < a0_5 then 1 else a0_5, a0_8, (↑a0_8.length : Int), 0), a0_0, a0_1, a0_2, a0_3, a0_4, a0_5, a0_6, a0_7, a0_8)) fun v10 =>
            match v10 with
            | .inl x11 =>
              some (true)
            | .inr x11 =>
              some (x11))))))
noncomputable def i53 : FI := ⟨ps53, .ty .b, fun (a0_0, a0_1, a0_2, a0_3, a0_4, a0_5, a0_6, a0_7, a0_8) => g53 a0_0 a0_1 a0_2 a0_3 a0_4 a0_5 a0_6 a0_7 a0_8⟩
theorem s53_0 : st53_0 = stepEval T Y env53 an lv53 (finO T true ps53 (.ty .b) Tryz.f53.results.toList) (loopAt c53 0) ns53_0 ex53_0 := by kernel_rfl
theorem e53 : (fun a => i53.G a) = fnEval T Y env53 an i53.ps i53.rs true Tryz.f53.results.toList lv53 c53 := by kernel_rfl
theorem lo53 : loopsOf c53 = [loopAt c53 0] := by kernel_rfl
theorem ll53 : LoopsOk T Y env53 an lv53 (finO T true ps53 (.ty .b) Tryz.f53.results.toList) c53 := loopsOk_of (by rw [lo53]; exact ⟨loop1 (li := l53_0) (by kernel_rfl) (by kernel_rfl) s53_0, trivial⟩)
theorem k53 : FnOk Tryz.prog 53 i53 :=
  fn_ok (T := T) (Y := Y) (an := an) (env := env53) (fr := true) (lenv := lv53) mixed tok.1 tok.2 (envCons k25 (envNil)) (fn := Tryz.f53) (c := c53) (by kernel_rfl) (by kernel_rfl) (by kernel_rfl) ll53 (fun a => congrFun e53 a)
/-! ### broker/brokerref41.take -/
noncomputable def c77 : Code := Tryz.f77.body.getD .skip
noncomputable def env77 : Env := mkEnv [(26, i26), (56, i56)]
abbrev ps77 : List PSh := [.d QS1, .d QS5]
abbrev D77 : Type := pairD (.tup (.pr (.ty QS1) (.ty .b))) (osOf ps77)
def ns77_0 : NS := { slots := [(2, .pt 2 []), (3, .pt 3 []), (4, .pt 4 []), (6, .ty (.i .i64)), (38, .ty (.sl (.st (.pr (.i .i64) .s)))), (39, .ty (.i .i64)), (40, .ty (.i .i64))], roots := [(4, .ty QS1), (3, .ty QS5), (2, .ty QS1)] }
def ex77_0 : List (Nat × NS) := [(0, { slots := [(2, .pt 2 []), (3, .pt 3 []), (4, .pt 4 []), (6, .ty (.i .i64))], roots := [(4, .ty QS1), (3, .ty QS5), (2, .ty QS1)] })]
noncomputable def st77_0 (ih : ((Int × (List (Int × List UInt8)) × Int × Int) × (((Int × Int × Int × Int × Int × Int × List Int) × Int × List (Int × List UInt8) × List Int) × (Int × Int × Int × Int × Int × Int × Int × Bool × List (Int × List UInt8)) × (Int × Int × Int × Int × Int × Int × List Int) × Int × List (Int × List UInt8) × List Int)) → Option (((Int) × (((Int × Int × Int × Int × Int × Int × List Int) × Int × List (Int × List UInt8) × List Int) × (Int × Int × Int × Int × Int × Int × Int × Bool × List (Int × List UInt8)) × (Int × Int × Int × Int × Int × Int × List Int) × Int × List (Int × List UInt8) × List Int)) ⊕ ((((Int × Int × Int × Int × Int × Int × List Int) × Int × List (Int × List UInt8) × List Int) × Bool)))) : ((Int × (List (Int × List UInt8)) × Int × Int) × (((Int × Int × Int × Int × Int × Int × List Int) × Int × List (Int × List UInt8) × List Int) × (Int × Int × Int × Int × Int × Int × Int × Bool × List (Int × List UInt8)) × (Int × Int × Int × Int × Int × Int × List Int) × Int × List (Int × List UInt8) × List Int)) → Option (((Int) × (((Int × Int × Int × Int × Int × Int × List Int) × Int × List (Int × List UInt8) × List Int) × (Int × Int × Int × Int × Int × Int × Int × Bool × List (Int × List UInt8)) × (Int × Int × Int × Int × Int × Int × List Int) × Int × List (Int × List UInt8) × List Int)) ⊕ ((((Int × Int × Int × Int × Int × Int × List Int) × Int × List (Int × List UInt8) × List Int) × Bool))) := fun ((t6, t38, t39, t40), (((r4_0_0, r4_0_1, r4_0_2, r4_0_3, r4_0_4, r4_0_5, r4_0_6), r4_1, r4_2, r4_3), (r3_0, r3_1, r3_2, r3_3, r3_4, r3_5, r3_6, r3_7, r3_8), ((r2_0_0, r2_0_1, r2_0_2, r2_0_3, r2_0_4, r2_0_5, r2_0_6), r2_1, r2_2, r2_3))) =>
  cond (decide (t40 < t39))
    (cond (decide (0 ≤ t40) && decide (t40 < (↑t38.length : Int)))
      (cond (decide (IntKind.i64.wrap (IntKind.i64.wrap (r3_4 + 1) + t40) ≤ (↑r2_2.length : Int)))
        (Option.bind (g26 r2_2 (IntKind.i64.wrap (IntKind.i64.wrap (r3_4 + 1) + t40))) fun v1 =>
        cond (v1 != (t38.getD t40.toNat (0, [])).1)
          (cond (decide (IntKind.i64.wrap (IntKind.i64.wrap (r3_4 + 1) + t40) ≤ r2_1))
            (some (Sum.inr (((r2_0_0, r2_0_1, r2_0_2, r2_0_3, r2_0_4, r2_0_5, r2_0_6), r2_1, r2_2, r2_3), false)))
            (cond (decide (0 ≤ IntKind.i64.wrap (IntKind.i64.wrap (IntKind.i64.wrap (r3_4 + 1) + t40) - 1)) && decide (IntKind.i64.wrap (IntKind.i64.wrap (IntKind.i64.wrap (r3_4 + 1) + t40) - 1) ≤ (↑r2_2.length : Int)) && true)
              (cond (decide (IntKind.i64.wrap (IntKind.i64.wrap (r3_4 + 1) + t40) > (↑(List.drop 0 (List.take (IntKind.i64.wrap (IntKind.i64.wrap (IntKind.i64.wrap (r3_4 + 1) + t40) - 1)).toNat r2_2)).length : Int)))
                (Option.bind (g56 (List.drop 0 (List.take (IntKind.i64.wrap (IntKind.i64.wrap (IntKind.i64.wrap (r3_4 + 1) + t40) - 1)).toNat r2_2))) fun v2 =>
                cond (decide (List.length v2 + 1 ≤ 2147483647))
                  (ih ((t6, t38, t39, IntKind.i64.wrap (t40 + 1)), ((r4_0_0, r4_0_1, r4_0_2, r4_0_3, r4_0_4, r4_0_5, r4_0_6), r4_1, r4_2, r4_3), (r3_0, r3_1, r3_2, r3_3, r3_4, r3_5, r3_6, r3_7, r3_8), (r2_0_0, r2_0_1, r2_0_2, r2_0_3, r2_0_4, r2_0_5, r2_0_6), r2_1, v2 ++ [t38.getD t40.toNat (0, [])], r2_3))
                  (none))
                (ih ((t6, t38, t39, IntKind.i64.wrap (t40 + 1)), ((r4_0_0, r4_0_1, r4_0_2, r4_0_3, r4_0_4, r4_0_5, r4_0_6), r4_1, r4_2, r4_3), (r3_0, r3_1, r3_2, r3_3, r3_4, r3_5, r3_6, r3_7, r3_8), (r2_0_0, r2_0_1, r2_0_2, r2_0_3, r2_0_4, r2_0_5, r2_0_6), r2_1, List.drop 0 (List.take (IntKind.i64.wrap (IntKind.i64.wrap (IntKind.i64.wrap (r3_4 + 1) + t40) - 1)).toNat r2_2), r2_3)))
              (none)))
          (cond (decide (IntKind.i64.wrap (IntKind.i64.wrap (r3_4 + 1) + t40) > (↑r2_2.length : Int)))
            (Option.bind (g56 r2_2) fun v3 =>
            cond (decide (List.length v3 + 1 ≤ 2147483647))
              (ih ((t6, t38, t39, IntKind.i64.wrap (t40 + 1)), ((r4_0_0, r4_0_1, r4_0_2, r4_0_3, r4_0_4, r4_0_5, r4_0_6), r4_1, r4_2, r4_3), (r3_0, r3_1, r3_2, r3_3, r3_4, r3_5, r3_6, r3_7, r3_8), (r2_0_0, r2_0_1, r2_0_2, r2_0_3, r2_0_4, r2_0_5, r2_0_6), r2_1, v3 ++ [t38.getD t40.toNat (0, [])], r2_3))
              (none))
            (ih ((t6, t38, t39, IntKind.i64.wrap (t40 + 1)), ((r4_0_0, r4_0_1, r4_0_2, r4_0_3, r4_0_4, r4_0_5, r4_0_6), r4_1, r4_2, r4_3), (r3_0, r3_1, r3_2, r3_3, r3_4, r3_5, r3_6, r3_7, r3_8), (r2_0_0, r2_0_1, r2_0_2, r2_0_3, r2_0_4, r2_0_5, r2_0_6), r2_1, r2_2, r2_3))))
        (cond (decide (IntKind.i64.wrap (IntKind.i64.wrap (r3_4 + 1) + t40) > (↑r2_2.length : Int)))
          (Option.bind (g56 r2_2) fun v4 =>
          cond (decide (List.length v4 + 1 ≤ 2147483647))
            (ih ((t6, t38, t39, IntKind.i64.wrap (t40 + 1)), ((r4_0_0, r4_0_1, r4_0_2, r4_0_3, r4_0_4, r4_0_5, r4_0_6), r4_1, r4_2, r4_3), (r3_0, r3_1, r3_2, r3_3, r3_4, r3_5, r3_6, r3_7, r3_8), (r2_0_0, r2_0_1, r2_0_2, r2_0_3, r2_0_4, r2_0_5, r2_0_6), r2_1, v4 ++ [t38.getD t40.toNat (0, [])], r2_3))
            (none))
          (ih ((t6, t38, t39, IntKind.i64.wrap (t40 + 1)), ((r4_0_0, r4_0_1, r4_0_2, r4_0_3, r4_0_4, r4_0_5, r4_0_6), r4_1, r4_2, r4_3), (r3_0, r3_1, r3_2, r3_3, r3_4, r3_5, r3_6, r3_7, r3_8), (r2_0_0, r2_0_1, r2_0_2, r2_0_3, r2_0_4, r2_0_5, r2_0_6), r2_1, r2_2, r2_3))))
      (none))
    (some (Sum.inl (t6, ((r4_0_0, r4_0_1, r4_0_2, r4_0_3, r4_0_4, r4_0_5, r4_0_6), r4_1, r4_2, r4_3), (r3_0, r3_1, r3_2, r3_3, r3_4, r3_5, r3_6, r3_7, r3_8), (r2_0_0, r2_0_1, r2_0_2, r2_0_3, r2_0_4, r2_0_5, r2_0_6), r2_1, r2_2, r2_3)))
noncomputable def h77_0 : ((Int × (List (Int × List UInt8)) × Int × Int) × (((Int × Int × Int × Int × Int × Int × List Int) × Int × List (Int × List UInt8) × List Int) × (Int × Int × Int × Int × Int × Int × Int × Bool × List (Int × List UInt8)) × (Int × Int × Int × Int × Int × Int × List Int) × Int × List (Int × List UInt8) × List Int)) → Option (((Int) × (((Int × Int × Int × Int × Int × Int × List Int) × Int × List (Int × List UInt8) × List Int) × (Int × Int × Int × Int × Int × Int × Int × Bool × List (Int × List UInt8)) × (Int × Int × Int × Int × Int × Int × List Int) × Int × List (Int × List UInt8) × List Int)) ⊕ ((((Int × Int × Int × Int × Int × Int × List Int) × Int × List (Int × List UInt8) × List Int) × Bool))) := loopN st77_0 fuel
noncomputable def l77_0 : LI D77 := ⟨ns77_0, ex77_0, h77_0⟩
noncomputable def lv77 : Nat → Option (LI D77) := fun q => if q = 5 then some l77_0 else (fun _ => none) q
noncomputable def g77 (a0_0_0 : Int) (a0_0_1 : Int) (a0_0_2 : Int) (a0_0_3 : Int) (a0_0_4 : Int) (a0_0_5 : Int) (a0_0_6 : List Int) (a0_1 : Int) (a0_2 : List (Int × List UInt8)) (a0_3 : List Int) (a1_0 : Int) (a1_1 : Int) (a1_2 : Int) (a1_3 : Int) (a1_4 : Int) (a1_5 : Int) (a1_6 : Int) (a1_7 : Bool) (a1_8 : List (Int × List UInt8)) : Option (((Int × Int × Int × Int × Int × Int × List Int) × Int × List (Int × List UInt8) × List Int) × Bool) :=
  cond (decide (a1_4 > (↑a0_2.length : Int)))
    (some ((((a0_0_0, a0_0_1, a0_0_2, a0_0_3, a0_0_4, a0_0_5, a0_0_6), a0_1, a0_2, a0_3), false)))
    (Option.bind (g26 a0_2 a1_4) fun v1 =>
    cond (v1 != a1_5)
      (some ((((a0_0_0, a0_0_1, a0_0_2, a0_0_3, a0_0_4, a0_0_5, a0_0_6), a0_1, a0_2, a0_3), false)))
      (cond (decide (IntKind.i64.wrap (a1_4 + (↑a1_8.length : Int)) > 4096))
        (some ((((a0_0_0, a0_0_1, a0_0_2, a0_0_3, a0_0_4, a0_0_5, a0_0_6), a0_1, a0_2, a0_3), false)))
        (Option.bind (h77_0 ((IntKind.i64.wrap (a1_4 + (↑a1_8.length : Int)), a1_8, (↑a1_8.length : Int), 0), ((0, 0, 0, 0, 0, 0, []), 0, [], []), (a1_0, a1_1, a1_2, a1_3, a1_4, a1_5, a1_6, a1_7, a1_8), (a0_0_0, a0_0_1, a0_0_2, a0_0_3, a0_0_4, a0_0_5, a0_0_6), a0_1, a0_2, a0_3)) fun v2 =>
        match v2 with
        | .inl x3 =>
          some (((x3.2.2.2.1, if true = true then if (if false = true then if x3.1 > x3.2.2.1.2.2.2.2.2.2.1 then x3.1 else x3.2.2.1.2.2.2.2.2.2.1 else if x3.1 < x3.2.2.1.2.2.2.2.2.2.1 then x3.1 else x3.2.2.1.2.2.2.2.2.2.1) > x3.2.2.2.2.1 then if false = true then if x3.1 > x3.2.2.1.2.2.2.2.2.2.1 then x3.1 else x3.2.2.1.2.2.2.2.2.2.1 else if x3.1 < x3.2.2.1.2.2.2.2.2.2.1 then x3.1 else x3.2.2.1.2.2.2.2.2.2.1 else x3.2.2.2.2.1 else if (if false = true then if x3.1 > x3.2.2.1.2.2.2.2.2.2.1 then x3.1 else x3.2.2.1.2.2.2.2.2.2.1 else if x3.1 < x3.2.2.1.2.2.2.2.2.2.1 then x3.1 else x3.2.2.1.2.2.2.2.2.2.1) < x3.2.2.2.2.1 then if false = true then if x3.1 > x3.2.2.1.2.2.2.2.2.2.1 then x3.1 else x3.2.2.1.2.2.2.2.2.2.1 else if x3.1 < x3.2.2.1.2.2.2.2.2.2.1 then x3.1 else x3.2.2.1.2.2.2.2.2.2.1 else x3.2.2.2.2.1, x3.2.2.2.2.2), true))
        | .inr x3 =>
          some (x3))))
noncomputable def i77 : FI := ⟨ps77, .tup (.pr (.ty QS1) (.ty .b)), fun (((a0_0_0, a0_0_1, a0_0_2, a0_0_3, a0_0_4, a0_0_5, a0_0_6), a0_1, a0_2, a0_3), (a1_0, a1_1, a1_2, a1_3, a1_4, a1_5, a1_6, a1_7, a1_8)) => g77 a0_0_0 a0_0_1 a0_0_2 a0_0_3 a0_0_4 a0_0_5 a0_0_6 a0_1 a0_2 a0_3 a1_0 a1_1 a1_2 a1_3 a1_4 a1_5 a1_6 a1_7 a1_8⟩
theorem s77_0 : st77_0 = stepEval T Y env77 (zapA an [(14, 2, [2])]) lv77 (finO T true ps77 (.tup (.pr (.ty QS1) (.ty .b))) Tryz.f77.results.toList) (loopAt c77 0) ns77_0 ex77_0 := by kernel_rfl
theorem e77 : (fun a => i77.G a) = fnEval T Y env77 (zapA an [(14, 2, [2])]) i77.ps i77.rs true Tryz.f77.results.toList lv77 c77 := by kernel_rfl
theorem lo77 : loopsOf c77 = [loopAt c77 0] := by kernel_rfl
theorem ll77 : LoopsOk T Y env77 (zapA an [(14, 2, [2])]) lv77 (finO T true ps77 (.tup (.pr (.ty QS1) (.ty .b))) Tryz.f77.results.toList) c77 := loopsOk_of (by rw [lo77]; exact ⟨loop1 (li := l77_0) (by kernel_rfl) (by kernel_rfl) s77_0, trivial⟩)
theorem k77 : FnOk Tryz.prog 77 i77 :=
  fn_ok (T := T) (Y := Y) (an := zapA an [(14, 2, [2])]) (env := env77) (fr := true) (lenv := lv77) mixed tok.1 tok.2 (envCons k26 (envCons k56 (envNil))) (fn := Tryz.f77) (c := c77) (by kernel_rfl) (by kernel_rfl) (by kernel_rfl) ll77 (fun a => congrFun e77 a)
/-! ### broker/brokerref41.appendLog -/
noncomputable def c54 : Code := Tryz.f54.body.getD .skip
noncomputable def env54 : Env := mkEnv [(27, i27), (55, i55), (77, i77)]
abbrev ps54 : List PSh := [.d QS1, .d QS5]
abbrev D54 : Type := pairD (.tup (.pr (.ty QS1) (.ty QS4))) (osOf ps54)
noncomputable def lv54 : Nat → Option (LI D54) := fun _ => none
noncomputable def g54 (a0_0_0 : Int) (a0_0_1 : Int) (a0_0_2 : Int) (a0_0_3 : Int) (a0_0_4 : Int) (a0_0_5 : Int) (a0_0_6 : List Int) (a0_1 : Int) (a0_2 : List (Int × List UInt8)) (a0_3 : List Int) (a1_0 : Int) (a1_1 : Int) (a1_2 : Int) (a1_3 : Int) (a1_4 : Int) (a1_5 : Int) (a1_6 : Int) (a1_7 : Bool) (a1_8 : List (Int × List UInt8)) : Option (((Int × Int × Int × Int × Int × Int × List Int) × Int × List (Int × List UInt8) × List Int) × List QT2) :=
  cond (decide (a1_3 < a0_0_2))
    (some ((((a0_0_0, a0_0_1, a0_0_2, a0_0_3, a0_0_4, a0_0_5, a0_0_6), a0_1, a0_2, a0_3), [(4, a0_0_0, a1_1, a0_0_2, 0, 0, 0, false, [])])))
    (cond (a1_3 == a0_0_2)
      (Option.bind (g27 a0_0_0 a0_0_1 a0_0_2 a0_0_3 a0_0_4 a0_0_5 a0_0_6 a0_1 a0_2 a0_3) fun v1 =>
      cond (v1)
        (some ((((a0_0_0, a0_0_1, a0_0_2, a0_0_3, a0_0_4, a0_0_5, a0_0_6), a0_1, a0_2, a0_3), [])))
        (Option.bind (g55 a0_0_0 a0_0_1 a0_0_2 a0_0_3 a0_0_4 a0_0_5 a0_0_6 a1_3) fun v2 =>
        Option.bind (g77 v2.1 v2.2.1 v2.2.2.1 0 v2.2.2.2.2.1 a1_1 [] a0_1 a0_2 [] a1_0 a1_1 a1_2 a1_3 a1_4 a1_5 a1_6 a1_7 a1_8) fun v3 =>
        cond (!v3.2)
          (some ((((v2.1, v2.2.1, v2.2.2.1, 0, v2.2.2.2.2.1, a1_1, []), a0_1, a0_2, []), [(4, a0_0_0, a1_1, v2.2.2.1, 0, 0, 0, false, [])])))
          (some ((v3.1, [(4, a0_0_0, a1_1, v2.2.2.1, IntKind.i64.wrap (a1_4 + (↑a1_8.length : Int)), 0, 0, true, [])])))))
      (Option.bind (g55 a0_0_0 a0_0_1 a0_0_2 a0_0_3 a0_0_4 a0_0_5 a0_0_6 a1_3) fun v4 =>
      Option.bind (g77 v4.1 v4.2.1 v4.2.2.1 0 v4.2.2.2.2.1 a1_1 [] a0_1 a0_2 [] a1_0 a1_1 a1_2 a1_3 a1_4 a1_5 a1_6 a1_7 a1_8) fun v5 =>
      cond (!v5.2)
        (some ((((v4.1, v4.2.1, v4.2.2.1, 0, v4.2.2.2.2.1, a1_1, []), a0_1, a0_2, []), [(4, a0_0_0, a1_1, v4.2.2.1, 0, 0, 0, false, [])])))
        (some ((v5.1, [(4, a0_0_0, a1_1, v4.2.2.1, IntKind.i64.wrap (a1_4 + (↑a1_8.length : Int)), 0, 0, true, [])])))))
noncomputable def i54 : FI := ⟨ps54, .tup (.pr (.ty QS1) (.ty QS4)), fun (((a0_0_0, a0_0_1, a0_0_2, a0_0_3, a0_0_4, a0_0_5, a0_0_6), a0_1, a0_2, a0_3), (a1_0, a1_1, a1_2, a1_3, a1_4, a1_5, a1_6, a1_7, a1_8)) => g54 a0_0_0 a0_0_1 a0_0_2 a0_0_3 a0_0_4 a0_0_5 a0_0_6 a0_1 a0_2 a0_3 a1_0 a1_1 a1_2 a1_3 a1_4 a1_5 a1_6 a1_7 a1_8⟩
theorem e54 : (fun a => i54.G a) = fnEval T Y env54 an i54.ps i54.rs true Tryz.f54.results.toList lv54 c54 := by kernel_rfl
theorem lo54 : loopsOf c54 = [] := by kernel_rfl
theorem ll54 : LoopsOk T Y env54 an lv54 (finO T true ps54 (.tup (.pr (.ty QS1) (.ty QS4))) Tryz.f54.results.toList) c54 := loopsOk_of (by rw [lo54]; exact trivial)
theorem k54 : FnOk Tryz.prog 54 i54 :=
  fn_ok (T := T) (Y := Y) (an := an) (env := env54) (fr := true) (lenv := lv54) mixed tok.1 tok.2 (envCons k27 (envCons k55 (envCons k77 (envNil)))) (fn := Tryz.f54) (c := c54) (by kernel_rfl) (by kernel_rfl) (by kernel_rfl) ll54 (fun a => congrFun e54 a)
/-! ### broker/brokerref41.Receive -/
noncomputable def c14 : Code := Tryz.f14.body.getD .skip
noncomputable def env14 : Env := mkEnv [(36, i36), (50, i50), (26, i26), (51, i51), (27, i27), (38, i38), (52, i52), (19, i19), (53, i53), (54, i54), (55, i55), (25, i25), (40, i40)]
abbrev ps14 : List PSh := [.d QS1, .d QS5]
abbrev D14 : Type := pairD (.tup (.pr (.ty QS1) (.ty QS4))) (osOf ps14)
noncomputable def lv14 : Nat → Option (LI D14) := fun _ => none
noncomputable def g14 (a0_0_0 : Int) (a0_0_1 : Int) (a0_0_2 : Int) (a0_0_3 : Int) (a0_0_4 : Int) (a0_0_5 : Int) (a0_0_6 : List Int) (a0_1 : Int) (a0_2 : List (Int × List UInt8)) (a0_3 : List Int) (a1_0 : Int) (a1_1 : Int) (a1_2 : Int) (a1_3 : Int) (a1_4 : Int) (a1_5 : Int) (a1_6 : Int) (a1_7 : Bool) (a1_8 : List (Int × List UInt8)) : Option (((Int × Int × Int × Int × Int × Int × List Int) × Int × List (Int × List UInt8) × List Int) × List QT2) :=
  Option.bind (g36 a0_0_0 a0_0_1 a0_0_2 a0_0_3 a0_0_4 a0_0_5 a0_0_6 a0_1 a0_2 a0_3) fun v1 =>
  Option.bind (g50 a0_0_0 a0_0_1 a0_0_2 a0_0_3 a0_0_4 a0_0_5 a0_0_6 a1_0 a1_1 a1_2 a1_3 a1_4 a1_5 a1_6 a1_7 a1_8) fun v2 =>
  cond (!v2)
    (some ((v1, [])))
    (cond (a1_0 == 1)
      (Option.bind (g26 a0_2 (↑a0_2.length : Int)) fun v3 =>
      Option.bind (g51 a0_0_0 a0_0_1 a0_0_2 a0_0_3 a0_0_4 a0_0_5 a0_0_6 a1_0 a1_1 a1_2 a1_3 a1_4 a1_5 a1_6 a1_7 a1_8 (↑a0_2.length : Int) v3) fun v4 =>
      Option.bind (g27 a0_0_0 a0_0_1 a0_0_2 a0_0_3 a0_0_4 a0_0_5 a0_0_6 a0_1 a0_2 a0_3) fun v5 =>
      Option.bind (g38 v4.1.1 v4.1.2.1 v4.1.2.2.1 v4.1.2.2.2.1 v4.1.2.2.2.2.1 v4.1.2.2.2.2.2.1 v4.1.2.2.2.2.2.2 v1.2.1 v1.2.2.1 v1.2.2.2 v5) fun v6 =>
      some ((v6, [v4.2])))
      (cond (a1_0 == 2)
        (Option.bind (g52 a0_0_0 a0_0_1 a0_0_2 a0_0_3 a0_0_4 a0_0_5 a0_0_6 a1_0 a1_1 a1_2 a1_3 a1_4 a1_5 a1_6 a1_7 a1_8) fun v7 =>
        Option.bind (g27 a0_0_0 a0_0_1 a0_0_2 a0_0_3 a0_0_4 a0_0_5 a0_0_6 a0_1 a0_2 a0_3) fun v8 =>
        Option.bind (g38 v7.1 v7.2.1 v7.2.2.1 v7.2.2.2.1 v7.2.2.2.2.1 v7.2.2.2.2.2.1 v7.2.2.2.2.2.2 v1.2.1 v1.2.2.1 v1.2.2.2 v8) fun v9 =>
        Option.bind (g27 a0_0_0 a0_0_1 a0_0_2 a0_0_3 a0_0_4 a0_0_5 a0_0_6 a0_1 a0_2 a0_3) fun v10 =>
        cond (!v10)
          (Option.bind (g19 v9.1.1 v9.1.2.1 v9.1.2.2.1 v9.1.2.2.2.1 v9.1.2.2.2.2.1 v9.1.2.2.2.2.2.1 v9.1.2.2.2.2.2.2 v9.2.1 v9.2.2.1 v9.2.2.2) fun v11 =>
          some ((v9, v11)))
          (some ((v9, []))))
        (cond (a1_0 == 3)
          (Option.bind (g53 a1_0 a1_1 a1_2 a1_3 a1_4 a1_5 a1_6 a1_7 a1_8) fun v12 =>
          cond (!v12)
            (some ((v1, [])))
            (Option.bind (g54 v1.1.1 v1.1.2.1 v1.1.2.2.1 v1.1.2.2.2.1 v1.1.2.2.2.2.1 v1.1.2.2.2.2.2.1 v1.1.2.2.2.2.2.2 v1.2.1 v1.2.2.1 v1.2.2.2 a1_0 a1_1 a1_2 a1_3 a1_4 a1_5 a1_6 a1_7 a1_8) fun v13 =>
            some (v13)))
          (cond (a1_0 == 4)
            (Option.bind (g55 a0_0_0 a0_0_1 a0_0_2 a0_0_3 a0_0_4 a0_0_5 a0_0_6 a1_3) fun v14 =>
            Option.bind (g27 a0_0_0 a0_0_1 a0_0_2 a0_0_3 a0_0_4 a0_0_5 a0_0_6 a0_1 a0_2 a0_3) fun v15 =>
            Option.bind (g38 v14.1 v14.2.1 v14.2.2.1 v14.2.2.2.1 v14.2.2.2.2.1 v14.2.2.2.2.2.1 v14.2.2.2.2.2.2 v1.2.1 v1.2.2.1 v1.2.2.2 v15) fun v16 =>
            cond (a1_3 == a0_0_2)
              (Option.bind (g27 a0_0_0 a0_0_1 a0_0_2 a0_0_3 a0_0_4 a0_0_5 a0_0_6 a0_1 a0_2 a0_3) fun v17 =>
              cond (v17)
                (cond (a1_7)
                  (cond (decide (0 ≤ a1_1) && decide (a1_1 < (↑a0_3.length : Int)))
                    (Option.bind (g25 a1_4 (IntKind.i64.wrap (a0_3.getD a1_1.toNat 0 + 1)) (↑a0_2.length : Int)) fun v18 =>
                    cond (v18)
                      (cond (decide (0 ≤ a1_1) && decide (a1_1 < (↑(List.length v16.2.2.2) : Int)))
                        (cond (decide (a1_1.toNat < List.length v16.2.2.2))
                          (Option.bind (g40 v16.1.1 v16.1.2.1 v16.1.2.2.1 v16.1.2.2.2.1 v16.1.2.2.2.2.1 v16.1.2.2.2.2.2.1 v16.1.2.2.2.2.2.2 v16.2.1 v16.2.2.1 (List.set v16.2.2.2 a1_1.toNat a1_4)) fun v19 =>
                          some ((v19, [])))
                          (none))
                        (none))
                      (some ((v16, []))))
                    (none))
                  (some ((v16, []))))
                (some ((v16, []))))
              (some ((v16, []))))
            (some ((v1, [])))))))
noncomputable def i14 : FI := ⟨ps14, .tup (.pr (.ty QS1) (.ty QS4)), fun (((a0_0_0, a0_0_1, a0_0_2, a0_0_3, a0_0_4, a0_0_5, a0_0_6), a0_1, a0_2, a0_3), (a1_0, a1_1, a1_2, a1_3, a1_4, a1_5, a1_6, a1_7, a1_8)) => g14 a0_0_0 a0_0_1 a0_0_2 a0_0_3 a0_0_4 a0_0_5 a0_0_6 a0_1 a0_2 a0_3 a1_0 a1_1 a1_2 a1_3 a1_4 a1_5 a1_6 a1_7 a1_8⟩
theorem e14 : (fun a => i14.G a) = fnEval T Y env14 (zapA an [(13, 6, []), (21, 6, [0])]) i14.ps i14.rs true Tryz.f14.results.toList lv14 c14 := by kernel_rfl
theorem lo14 : loopsOf c14 = [] := by kernel_rfl
theorem ll14 : LoopsOk T Y env14 (zapA an [(13, 6, []), (21, 6, [0])]) lv14 (finO T true ps14 (.tup (.pr (.ty QS1) (.ty QS4))) Tryz.f14.results.toList) c14 := loopsOk_of (by rw [lo14]; exact trivial)
theorem k14 : FnOk Tryz.prog 14 i14 :=
  fn_ok (T := T) (Y := Y) (an := zapA an [(13, 6, []), (21, 6, [0])]) (env := env14) (fr := true) (lenv := lv14) mixed tok.1 tok.2 (envCons k36 (envCons k50 (envCons k26 (envCons k51 (envCons k27 (envCons k38 (envCons k52 (envCons k19 (envCons k53 (envCons k54 (envCons k55 (envCons k25 (envCons k40 (envNil)))))))))))))) (fn := Tryz.f14) (c := c14) (by kernel_rfl) (by kernel_rfl) (by kernel_rfl) ll14 (fun a => congrFun e14 a)
/-! ### broker/brokerref41.Restart -/
noncomputable def c16 : Code := Tryz.f16.body.getD .skip
noncomputable def env16 : Env := mkEnv [(56, i56)]
abbrev ps16 : List PSh := [.d QS1]
abbrev D16 : Type := pairD (.ty QS1) (osOf ps16)
noncomputable def lv16 : Nat → Option (LI D16) := fun _ => none
noncomputable def g16 (a0_0_0 : Int) (a0_0_1 : Int) (a0_0_2 : Int) (a0_0_3 : Int) (a0_0_4 : Int) (a0_0_5 : Int) (a0_0_6 : List Int) (a0_1 : Int) (a0_2 : List (Int × List UInt8)) (a0_3 : List Int) : Option ((Int × Int × Int × Int × Int × Int × List Int) × Int × List (Int × List UInt8) × List Int) :=
  Option.bind (g56 a0_2) fun v1 =>
  some (((a0_0_0, a0_0_1, a0_0_2, 0, a0_0_4, -1, []), 0, v1, []))
noncomputable def i16 : FI := ⟨ps16, .ty QS1, fun ((a0_0_0, a0_0_1, a0_0_2, a0_0_3, a0_0_4, a0_0_5, a0_0_6), a0_1, a0_2, a0_3) => g16 a0_0_0 a0_0_1 a0_0_2 a0_0_3 a0_0_4 a0_0_5 a0_0_6 a0_1 a0_2 a0_3⟩
theorem e16 : (fun a => i16.G a) = fnEval T Y env16 an i16.ps i16.rs true Tryz.f16.results.toList lv16 c16 := by kernel_rfl
theorem lo16 : loopsOf c16 = [] := by kernel_rfl
theorem ll16 : LoopsOk T Y env16 an lv16 (finO T true ps16 (.ty QS1) Tryz.f16.results.toList) c16 := loopsOk_of (by rw [lo16]; exact trivial)
theorem k16 : FnOk Tryz.prog 16 i16 :=
  fn_ok (T := T) (Y := Y) (an := an) (env := env16) (fr := true) (lenv := lv16) mixed tok.1 tok.2 (envCons k56 (envNil)) (fn := Tryz.f16) (c := c16) (by kernel_rfl) (by kernel_rfl) (by kernel_rfl) ll16 (fun a => congrFun e16 a)
/-! ### broker/brokerref41.Committed -/
noncomputable def c22 : Code := Tryz.f22.body.getD .skip
noncomputable def env22 : Env := mkEnv []
abbrev ps22 : List PSh := [.d QS1]
abbrev D22 : Type := pairD (.ty (.sl .s)) (osOf ps22)
def ns22_0 : NS := { slots := [(3, .hw 20), (10, .ty (.sl (.st (.pr (.i .i64) .s)))), (11, .ty (.i .i64)), (12, .ty (.i .i64))], roots := [(20, .ar 1 .s)], ad := [{ t := 3, path := [], g := 20, d := 1, τ := (.s : Ty) }] }
def ex22_0 : List (Nat × NS) := [(0, { slots := [(3, .hw 20)], roots := [(20, .ar 1 .s)] })]
noncomputable def st22_0 (ih : (((List (Int × List UInt8)) × Int × Int) × (List (List UInt8))) → Option (((Unit) × (List (List UInt8))) ⊕ (List (List UInt8)))) : (((List (Int × List UInt8)) × Int × Int) × (List (List UInt8))) → Option (((Unit) × (List (List UInt8))) ⊕ (List (List UInt8))) := fun ((t10, t11, t12), r20) =>
  cond (decide (t12 < t11))
    (cond (decide (0 ≤ t12) && decide (t12 < (↑t10.length : Int)))
      (cond (decide (r20.length + 1 ≤ 2147483647))
        (ih ((t10, t11, IntKind.i64.wrap (t12 + 1)), r20 ++ [(t10.getD t12.toNat (0, [])).2]))
        (none))
      (none))
    (some (Sum.inl ((), r20)))
noncomputable def h22_0 : (((List (Int × List UInt8)) × Int × Int) × (List (List UInt8))) → Option (((Unit) × (List (List UInt8))) ⊕ (List (List UInt8))) := loopN st22_0 fuel
noncomputable def l22_0 : LI D22 := ⟨ns22_0, ex22_0, h22_0⟩
noncomputable def lv22 : Nat → Option (LI D22) := fun q => if q = 3 then some l22_0 else (fun _ => none) q
noncomputable def g22 (a0_0_0 : Int) (a0_0_1 : Int) (a0_0_2 : Int) (a0_0_3 : Int) (a0_0_4 : Int) (a0_0_5 : Int) (a0_0_6 : List Int) (a0_1 : Int) (a0_2 : List (Int × List UInt8)) (a0_3 : List Int) : Option (List (List UInt8)) :=
  cond (decide (0 ≤ a0_1) && decide (a0_1 ≤ (↑a0_2.length : Int)) && true)
    (Option.bind (h22_0 ((List.drop 0 (List.take a0_1.toNat a0_2), (↑(List.drop 0 (List.take a0_1.toNat a0_2)).length : Int), 0), [])) fun v1 =>
    match v1 with
    | .inl x2 =>
      some (x2.2)
    | .inr x2 =>
      some (x2))
    (none)
noncomputable def i22 : FI := ⟨ps22, .ty (.sl .s), fun ((a0_0_0, a0_0_1, a0_0_2, a0_0_3, a0_0_4, a0_0_5, a0_0_6), a0_1, a0_2, a0_3) => g22 a0_0_0 a0_0_1 a0_0_2 a0_0_3 a0_0_4 a0_0_5 a0_0_6 a0_1 a0_2 a0_3⟩
theorem s22_0 : st22_0 = stepEval T Y env22 an lv22 (finO T true ps22 (.ty (.sl .s)) Tryz.f22.results.toList) (loopAt c22 0) ns22_0 ex22_0 := by kernel_rfl
theorem e22 : (fun a => i22.G a) = fnEval T Y env22 an i22.ps i22.rs true Tryz.f22.results.toList lv22 c22 := by kernel_rfl
theorem lo22 : loopsOf c22 = [loopAt c22 0] := by kernel_rfl
theorem ll22 : LoopsOk T Y env22 an lv22 (finO T true ps22 (.ty (.sl .s)) Tryz.f22.results.toList) c22 := loopsOk_of (by rw [lo22]; exact ⟨loop1 (li := l22_0) (by kernel_rfl) (by kernel_rfl) s22_0, trivial⟩)
theorem k22 : FnOk Tryz.prog 22 i22 :=
  fn_ok (T := T) (Y := Y) (an := an) (env := env22) (fr := true) (lenv := lv22) mixed tok.1 tok.2 (envNil) (fn := Tryz.f22) (c := c22) (by kernel_rfl) (by kernel_rfl) (by kernel_rfl) ll22 (fun a => congrFun e22 a)
end Go.Proofs.YtfadalgikdffeaaGreat.EVT
