/- What functions compute, as printed (U, part P). -/
import Derived.Test.YtehjeifbgegabaaUE
set_option linter.unusedVariables false
set_option maxRecDepth 100000
set_option maxHeartbeats 0
namespace Go.Proofs.Ytehjeifbgegabaa.EVT
open Go Go.EV
def tabP0 : List UInt8 := (0 :: List.append (List.append [1, 2, 2, 3, 3, 3, 3, 4, 4, 4, 4, 4, 4, 4, 4, 5, 5, 5, 5, 5, 5, 5, 5, 5, 5, 5, 5, 5, 5, 5, 5, 6, 6, 6, 6, 6, 6, 6, 6, 6, 6, 6, 6, 6, 6, 6, 6, 6, 6, 6, 6, 6, 6, 6, 6, 6, 6, 6, 6, 6, 6, 6, 6] [7, 7, 7, 7, 7, 7, 7, 7, 7, 7, 7, 7, 7, 7, 7, 7, 7, 7, 7, 7, 7, 7, 7, 7, 7, 7, 7, 7, 7, 7, 7, 7, 7, 7, 7, 7, 7, 7, 7, 7, 7, 7, 7, 7, 7, 7, 7, 7, 7, 7, 7, 7, 7, 7, 7, 7, 7, 7, 7, 7, 7, 7, 7, 7]) ([8, 8, 8, 8, 8, 8, 8, 8, 8, 8, 8, 8, 8, 8, 8, 8, 8, 8, 8, 8, 8, 8, 8, 8, 8, 8, 8, 8, 8, 8, 8, 8, 8, 8, 8, 8, 8, 8, 8, 8, 8, 8, 8, 8, 8, 8, 8, 8, 8, 8, 8, 8, 8, 8, 8, 8, 8, 8, 8, 8, 8, 8, 8, 8].append [8, 8, 8, 8, 8, 8, 8, 8, 8, 8, 8, 8, 8, 8, 8, 8, 8, 8, 8, 8, 8, 8, 8, 8, 8, 8, 8, 8, 8, 8, 8, 8, 8, 8, 8, 8, 8, 8, 8, 8, 8, 8, 8, 8, 8, 8, 8, 8, 8, 8, 8, 8, 8, 8, 8, 8, 8, 8, 8, 8, 8, 8, 8, 8]))
/-! ### cmp.isNaN[int] -/
noncomputable def c65 : Code := Try.f65.body.getD .skip
noncomputable def env65 : Env := mkEnv []
abbrev ps65 : List PSh := [.d (.i .i64)]
abbrev D65 : Type := pairD (.ty .b) (osOf ps65)
noncomputable def lv65 : Nat → Option (LI D65) := fun _ => none
noncomputable def g65 (a0 : Int) : Option (Bool) :=
  some (a0 != a0)
noncomputable def i65 : FI := ⟨ps65, .ty .b, fun a0 => g65 a0⟩
theorem e65 : (fun a => i65.G a) = fnEval T Y env65 an i65.ps i65.rs true Try.f65.results.toList lv65 c65 := by kernel_rfl
theorem lo65 : loopsOf c65 = [] := by kernel_rfl
theorem ll65 : LoopsOk T Y env65 an lv65 (finO T true ps65 (.ty .b) Try.f65.results.toList) c65 := loopsOk_of (by rw [lo65]; exact trivial)
theorem k65 : FnOk Try.prog 65 i65 :=
  fn_ok (T := T) (Y := Y) (an := an) (env := env65) (fr := true) (lenv := lv65) mixed tok.1 tok.2 (envNil) (fn := Try.f65) (c := c65) (by kernel_rfl) (by kernel_rfl) (by kernel_rfl) ll65 (fun a => congrFun e65 a)
/-! ### cmp.Less[int] -/
noncomputable def c55 : Code := Try.f55.body.getD .skip
noncomputable def env55 : Env := mkEnv [(65, i65)]
abbrev ps55 : List PSh := [.d (.i .i64), .d (.i .i64)]
abbrev D55 : Type := pairD (.ty .b) (osOf ps55)
noncomputable def lv55 : Nat → Option (LI D55) := fun _ => none
noncomputable def g55 (a0 : Int) (a1 : Int) : Option (Bool) :=
  Option.bind (g65 a0) fun v1 =>
  cond (v1)
    (Option.bind (g65 a1) fun v2 =>
    cond (!v2)
      (some (true))
      (some (decide (a0 < a1))))
    (some (decide (a0 < a1)))
noncomputable def i55 : FI := ⟨ps55, .ty .b, fun (a0, a1) => g55 a0 a1⟩
theorem e55 : (fun a => i55.G a) = fnEval T Y env55 an i55.ps i55.rs true Try.f55.results.toList lv55 c55 := by kernel_rfl
theorem lo55 : loopsOf c55 = [] := by kernel_rfl
theorem ll55 : LoopsOk T Y env55 an lv55 (finO T true ps55 (.ty .b) Try.f55.results.toList) c55 := loopsOk_of (by rw [lo55]; exact trivial)
theorem k55 : FnOk Try.prog 55 i55 :=
  fn_ok (T := T) (Y := Y) (an := an) (env := env55) (fr := true) (lenv := lv55) mixed tok.1 tok.2 (envCons k65 (envNil)) (fn := Try.f55) (c := c55) (by kernel_rfl) (by kernel_rfl) (by kernel_rfl) ll55 (fun a => congrFun e55 a)
/-! ### slices.insertionSortOrdered[int] -/
noncomputable def c49 : Code := Try.f49.body.getD .skip
noncomputable def env49 : Env := mkEnv [(55, i55)]
abbrev ps49 : List PSh := [.io (.ow 1 (.i .i64)) (.ow 1 (.i .i64)), .d (.i .i64), .d (.i .i64)]
abbrev D49 : Type := pairD (.un) (osOf ps49)
def ns49_1 : NS := { slots := [(0, .hw 1000000), (1, .ty (.i .i64)), (2, .ty (.i .i64)), (6, .ty (.i .i64)), (7, .ty (.i .i64))], roots := [(1000000, .ar 1 (.i .i64))] }
def ex49_1 : List (Nat × NS) := [(2, { slots := [(0, .hw 1000000), (1, .ty (.i .i64)), (2, .ty (.i .i64)), (6, .ty (.i .i64))], roots := [(1000000, .ar 1 (.i .i64))] })]
noncomputable def st49_1 (ih : ((Int × Int × Int × Int) × (List Int)) → Option (((Int × Int × Int) × (List Int)) ⊕ ((Unit × List Int)))) : ((Int × Int × Int × Int) × (List Int)) → Option (((Int × Int × Int) × (List Int)) ⊕ ((Unit × List Int))) := fun ((t1, t2, t6, t7), r1000000) =>
  cond (decide (t7 > t1))
    (cond (decide (0 ≤ t7) && decide (t7 < (↑r1000000.length : Int)))
      (cond (decide (t7.toNat < r1000000.length))
        (cond (decide (0 ≤ IntKind.i64.wrap (t7 - 1)) && decide (IntKind.i64.wrap (t7 - 1) < (↑r1000000.length : Int)))
          (cond (decide ((IntKind.i64.wrap (t7 - 1)).toNat < r1000000.length))
            (Option.bind (g55 (r1000000.getD t7.toNat 0) (r1000000.getD (IntKind.i64.wrap (t7 - 1)).toNat 0)) fun v1 =>
            cond (v1)
              (cond (decide (0 ≤ IntKind.i64.wrap (t7 - 1)) && decide (IntKind.i64.wrap (t7 - 1) < (↑r1000000.length : Int)))
                (cond (decide ((IntKind.i64.wrap (t7 - 1)).toNat < r1000000.length))
                  (cond (decide (0 ≤ t7) && decide (t7 < (↑r1000000.length : Int)))
                    (cond (decide (t7.toNat < r1000000.length))
                      (cond (decide (0 ≤ t7) && decide (t7 < (↑r1000000.length : Int)))
                        (cond (decide (t7.toNat < r1000000.length))
                          (cond (decide (0 ≤ IntKind.i64.wrap (t7 - 1)) && decide (IntKind.i64.wrap (t7 - 1) < (↑(r1000000.set t7.toNat (r1000000.getD (IntKind.i64.wrap (t7 - 1)).toNat 0)).length : Int)))
                            (cond (decide ((IntKind.i64.wrap (t7 - 1)).toNat < (r1000000.set t7.toNat (r1000000.getD (IntKind.i64.wrap (t7 - 1)).toNat 0)).length))
                              (ih ((t1, t2, t6, IntKind.i64.wrap (t7 - 1)), (r1000000.set t7.toNat (r1000000.getD (IntKind.i64.wrap (t7 - 1)).toNat 0)).set (IntKind.i64.wrap (t7 - 1)).toNat (r1000000.getD t7.toNat 0)))
                              (none))
                            (none))
                          (none))
                        (none))
                      (none))
                    (none))
                  (none))
                (none))
              (some (Sum.inl ((t1, t2, t6), r1000000))))
            (none))
          (none))
        (none))
      (none))
    (some (Sum.inl ((t1, t2, t6), r1000000)))
noncomputable def h49_1 : ((Int × Int × Int × Int) × (List Int)) → Option (((Int × Int × Int) × (List Int)) ⊕ ((Unit × List Int))) := loopN st49_1 fuel
noncomputable def l49_1 : LI D49 := ⟨ns49_1, ex49_1, h49_1⟩
def ns49_0 : NS := { slots := [(0, .hw 1000000), (1, .ty (.i .i64)), (2, .ty (.i .i64)), (6, .ty (.i .i64))], roots := [(1000000, .ar 1 (.i .i64))] }
def ex49_0 : List (Nat × NS) := [(0, { slots := [(0, .hw 1000000)], roots := [(1000000, .ar 1 (.i .i64))] })]
noncomputable def st49_0 (ih : ((Int × Int × Int) × (List Int)) → Option (((Unit) × (List Int)) ⊕ ((Unit × List Int)))) : ((Int × Int × Int) × (List Int)) → Option (((Unit) × (List Int)) ⊕ ((Unit × List Int))) := fun ((t1, t2, t6), r1000000) =>
  cond (decide (t6 < t2))
    (Option.bind (h49_1 ((t1, t2, t6, t6), r1000000)) fun v1 =>
    match v1 with
    | .inl x2 =>
      ih ((x2.1.1, x2.1.2.1, IntKind.i64.wrap (x2.1.2.2 + 1)), x2.2)
    | .inr x2 =>
      some (Sum.inr x2))
    (some (Sum.inl ((), r1000000)))
noncomputable def h49_0 : ((Int × Int × Int) × (List Int)) → Option (((Unit) × (List Int)) ⊕ ((Unit × List Int))) := loopN st49_0 fuel
noncomputable def l49_0 : LI D49 := ⟨ns49_0, ex49_0, h49_0⟩
noncomputable def lv49 : Nat → Option (LI D49) := fun q => if q = 1 then some l49_0 else (fun q => if q = 4 then some l49_1 else (fun _ => none) q) q
noncomputable def g49 (a0 : List Int) (a1 : Int) (a2 : Int) : Option (Unit × List Int) :=
  Option.bind (h49_0 ((a1, a2, IntKind.i64.wrap (a1 + 1)), a0)) fun v1 =>
  match v1 with
  | .inl x2 =>
    some (((), x2.2))
  | .inr x2 =>
    some (x2)
noncomputable def i49 : FI := ⟨ps49, .un, fun (a0, a1, a2) => g49 a0 a1 a2⟩
theorem s49_1 : st49_1 = stepEval T Y env49 an lv49 (finO T true ps49 (.un) Try.f49.results.toList) (loopAt c49 1) ns49_1 ex49_1 := by kernel_rfl
theorem s49_0 : st49_0 = stepEval T Y env49 an lv49 (finO T true ps49 (.un) Try.f49.results.toList) (loopAt c49 0) ns49_0 ex49_0 := by kernel_rfl
theorem e49 : (fun a => i49.G a) = fnEval T Y env49 an i49.ps i49.rs true Try.f49.results.toList lv49 c49 := by kernel_rfl
theorem lo49 : loopsOf c49 = [loopAt c49 0, loopAt c49 1] := by kernel_rfl
theorem ll49 : LoopsOk T Y env49 an lv49 (finO T true ps49 (.un) Try.f49.results.toList) c49 := loopsOk_of (by rw [lo49]; exact ⟨loop1 (li := l49_0) (by kernel_rfl) (by kernel_rfl) s49_0, ⟨loop1 (li := l49_1) (by kernel_rfl) (by kernel_rfl) s49_1, trivial⟩⟩)
theorem k49 : FnOk Try.prog 49 i49 :=
  fn_ok (T := T) (Y := Y) (an := an) (env := env49) (fr := true) (lenv := lv49) mixed tok.1 tok.2 (envCons k55 (envNil)) (fn := Try.f49) (c := c49) (by kernel_rfl) (by kernel_rfl) (by kernel_rfl) ll49 (fun a => congrFun e49 a)
/-! ### slices.pdqsortOrdered[int] -/
noncomputable def c47 : Code := Try.f47.body.getD .skip
noncomputable def env47 : Env := mkEnv [(49, i49), (55, i55)]
abbrev ps47 : List PSh := [.io (.ow 1 (.i .i64)) (.ow 1 (.i .i64)), .d (.i .i64), .d (.i .i64), .d (.i .i64)]
abbrev D47 : Type := pairD (.un) (osOf ps47)
def ns47_0 : NS := { slots := [(0, .hw 1000000), (1, .ty (.i .i64)), (2, .ty (.i .i64)), (3, .ty (.i .i64)), (8, .ty .b), (9, .ty .b)], roots := [(1000000, .ar 1 (.i .i64))] }
def ex47_0 : List (Nat × NS) := []
noncomputable def st47_0 (ih : ((Int × Int × Int × Bool × Bool) × (List Int)) → Option ((Unit × List Int))) : ((Int × Int × Int × Bool × Bool) × (List Int)) → Option ((Unit × List Int)) := fun ((t1, t2, t3, t8, t9), r1000000) =>
  cond (decide (IntKind.i64.wrap (t2 - t1) ≤ 12))
    (Option.bind (g49 r1000000 t1 t2) fun v1 =>
    cond (List.length v1.2 == r1000000.length && true)
      (some (((), v1.2)))
      (none))
    (cond (t3 == 0)
      (none)
      (cond (!t8)
        (none)
        (none)))
noncomputable def h47_0 : ((Int × Int × Int × Bool × Bool) × (List Int)) → Option ((Unit × List Int)) := loopN st47_0 fuel
noncomputable def l47_0 : LI D47 := ⟨ns47_0, ex47_0, h47_0⟩
noncomputable def lv47 : Nat → Option (LI D47) := fun q => if q = 2 then some l47_0 else (fun _ => none) q
noncomputable def g47 (a0 : List Int) (a1 : Int) (a2 : Int) (a3 : Int) : Option (Unit × List Int) :=
  Option.bind (h47_0 ((a1, a2, a3, true, true), a0)) fun v1 =>
  some (v1)
noncomputable def i47 : FI := ⟨ps47, .un, fun (a0, a1, a2, a3) => g47 a0 a1 a2 a3⟩
theorem s47_0 : st47_0 = stepEval T Y env47 an lv47 (finO T true ps47 (.un) Try.f47.results.toList) (loopAt c47 0) ns47_0 ex47_0 := by kernel_rfl
theorem e47 : (fun a => i47.G a) = fnEval T Y env47 an i47.ps i47.rs true Try.f47.results.toList lv47 c47 := by kernel_rfl
theorem lo47 : loopsOf c47 = [loopAt c47 0] := by kernel_rfl
theorem ll47 : LoopsOk T Y env47 an lv47 (finO T true ps47 (.un) Try.f47.results.toList) c47 := loopsOk_of (by rw [lo47]; exact ⟨loop1 (li := l47_0) (by kernel_rfl) (by kernel_rfl) s47_0, trivial⟩)
theorem k47 : FnOk Try.prog 47 i47 :=
  fn_ok (T := T) (Y := Y) (an := an) (env := env47) (fr := true) (lenv := lv47) mixed tok.1 tok.2 (envCons k49 (envCons k55 (envNil))) (fn := Try.f47) (c := c47) (by kernel_rfl) (by kernel_rfl) (by kernel_rfl) ll47 (fun a => congrFun e47 a)
/-! ### math/bits.Len64 -/
noncomputable def c59 : Code := Try.f59.body.getD .skip
noncomputable def env59 : Env := mkEnv []
abbrev ps59 : List PSh := [.d (.i .u64)]
abbrev D59 : Type := pairD (.ty (.i .i64)) (osOf ps59)
noncomputable def lv59 : Nat → Option (LI D59) := fun _ => none
noncomputable def g59 (a0 : Int) : Option (Int) :=
  cond (decide (a0 ≥ 4294967296))
    (cond (decide (a0.fdiv (2 ^ min (Int.toNat 32) IntKind.u64.bits) ≥ 65536))
      (cond (decide ((a0.fdiv (2 ^ min (Int.toNat 32) IntKind.u64.bits)).fdiv (2 ^ min (Int.toNat 16) IntKind.u64.bits) ≥ 256))
        (cond (decide (0 ≤ IntKind.u8.wrap (((a0.fdiv (2 ^ min (Int.toNat 32) IntKind.u64.bits)).fdiv (2 ^ min (Int.toNat 16) IntKind.u64.bits)).fdiv (2 ^ min (Int.toNat 8) IntKind.u64.bits))) && decide (IntKind.u8.wrap (((a0.fdiv (2 ^ min (Int.toNat 32) IntKind.u64.bits)).fdiv (2 ^ min (Int.toNat 16) IntKind.u64.bits)).fdiv (2 ^ min (Int.toNat 8) IntKind.u64.bits)) < (↑tabP0.length : Int)))
          (some (IntKind.i64.wrap (IntKind.i64.wrap (IntKind.i64.wrap (32 + 16) + 8) + IntKind.i64.wrap (↑(tabP0.getD (IntKind.u8.wrap (((a0.fdiv (2 ^ min (Int.toNat 32) IntKind.u64.bits)).fdiv (2 ^ min (Int.toNat 16) IntKind.u64.bits)).fdiv (2 ^ min (Int.toNat 8) IntKind.u64.bits))).toNat 0).toNat : Int))))
          (none))
        (cond (decide (0 ≤ IntKind.u8.wrap ((a0.fdiv (2 ^ min (Int.toNat 32) IntKind.u64.bits)).fdiv (2 ^ min (Int.toNat 16) IntKind.u64.bits))) && decide (IntKind.u8.wrap ((a0.fdiv (2 ^ min (Int.toNat 32) IntKind.u64.bits)).fdiv (2 ^ min (Int.toNat 16) IntKind.u64.bits)) < (↑tabP0.length : Int)))
          (some (IntKind.i64.wrap (IntKind.i64.wrap (32 + 16) + IntKind.i64.wrap (↑(tabP0.getD (IntKind.u8.wrap ((a0.fdiv (2 ^ min (Int.toNat 32) IntKind.u64.bits)).fdiv (2 ^ min (Int.toNat 16) IntKind.u64.bits))).toNat 0).toNat : Int))))
          (none)))
      (cond (decide (a0.fdiv (2 ^ min (Int.toNat 32) IntKind.u64.bits) ≥ 256))
        (cond (decide (0 ≤ IntKind.u8.wrap ((a0.fdiv (2 ^ min (Int.toNat 32) IntKind.u64.bits)).fdiv (2 ^ min (Int.toNat 8) IntKind.u64.bits))) && decide (IntKind.u8.wrap ((a0.fdiv (2 ^ min (Int.toNat 32) IntKind.u64.bits)).fdiv (2 ^ min (Int.toNat 8) IntKind.u64.bits)) < (↑tabP0.length : Int)))
          (some (IntKind.i64.wrap (IntKind.i64.wrap (32 + 8) + IntKind.i64.wrap (↑(tabP0.getD (IntKind.u8.wrap ((a0.fdiv (2 ^ min (Int.toNat 32) IntKind.u64.bits)).fdiv (2 ^ min (Int.toNat 8) IntKind.u64.bits))).toNat 0).toNat : Int))))
          (none))
        (cond (decide (0 ≤ IntKind.u8.wrap (a0.fdiv (2 ^ min (Int.toNat 32) IntKind.u64.bits))) && decide (IntKind.u8.wrap (a0.fdiv (2 ^ min (Int.toNat 32) IntKind.u64.bits)) < (↑tabP0.length : Int)))
          (some (IntKind.i64.wrap (32 + IntKind.i64.wrap (↑(tabP0.getD (IntKind.u8.wrap (a0.fdiv (2 ^ min (Int.toNat 32) IntKind.u64.bits))).toNat 0).toNat : Int))))
          (none))))
    (cond (decide (a0 ≥ 65536))
      (cond (decide (a0.fdiv (2 ^ min (Int.toNat 16) IntKind.u64.bits) ≥ 256))
        (cond (decide (0 ≤ IntKind.u8.wrap ((a0.fdiv (2 ^ min (Int.toNat 16) IntKind.u64.bits)).fdiv (2 ^ min (Int.toNat 8) IntKind.u64.bits))) && decide (IntKind.u8.wrap ((a0.fdiv (2 ^ min (Int.toNat 16) IntKind.u64.bits)).fdiv (2 ^ min (Int.toNat 8) IntKind.u64.bits)) < (↑tabP0.length : Int)))
          (some (IntKind.i64.wrap (IntKind.i64.wrap (IntKind.i64.wrap (0 + 16) + 8) + IntKind.i64.wrap (↑(tabP0.getD (IntKind.u8.wrap ((a0.fdiv (2 ^ min (Int.toNat 16) IntKind.u64.bits)).fdiv (2 ^ min (Int.toNat 8) IntKind.u64.bits))).toNat 0).toNat : Int))))
          (none))
        (cond (decide (0 ≤ IntKind.u8.wrap (a0.fdiv (2 ^ min (Int.toNat 16) IntKind.u64.bits))) && decide (IntKind.u8.wrap (a0.fdiv (2 ^ min (Int.toNat 16) IntKind.u64.bits)) < (↑tabP0.length : Int)))
          (some (IntKind.i64.wrap (IntKind.i64.wrap (0 + 16) + IntKind.i64.wrap (↑(tabP0.getD (IntKind.u8.wrap (a0.fdiv (2 ^ min (Int.toNat 16) IntKind.u64.bits))).toNat 0).toNat : Int))))
          (none)))
      (cond (decide (a0 ≥ 256))
        (cond (decide (0 ≤ IntKind.u8.wrap (a0.fdiv (2 ^ min (Int.toNat 8) IntKind.u64.bits))) && decide (IntKind.u8.wrap (a0.fdiv (2 ^ min (Int.toNat 8) IntKind.u64.bits)) < (↑tabP0.length : Int)))
          (some (IntKind.i64.wrap (IntKind.i64.wrap (0 + 8) + IntKind.i64.wrap (↑(tabP0.getD (IntKind.u8.wrap (a0.fdiv (2 ^ min (Int.toNat 8) IntKind.u64.bits))).toNat 0).toNat : Int))))
          (none))
        (cond (decide (0 ≤ IntKind.u8.wrap a0) && decide (IntKind.u8.wrap a0 < (↑tabP0.length : Int)))
          (some (IntKind.i64.wrap (0 + IntKind.i64.wrap (↑(tabP0.getD (IntKind.u8.wrap a0).toNat 0).toNat : Int))))
          (none))))
noncomputable def i59 : FI := ⟨ps59, .ty (.i .i64), fun a0 => g59 a0⟩
theorem e59 : (fun a => i59.G a) = fnEval T Y env59 an i59.ps i59.rs true Try.f59.results.toList lv59 c59 := by kernel_rfl
theorem lo59 : loopsOf c59 = [] := by kernel_rfl
theorem ll59 : LoopsOk T Y env59 an lv59 (finO T true ps59 (.ty (.i .i64)) Try.f59.results.toList) c59 := loopsOk_of (by rw [lo59]; exact trivial)
theorem k59 : FnOk Try.prog 59 i59 :=
  fn_ok (T := T) (Y := Y) (an := an) (env := env59) (fr := true) (lenv := lv59) mixed tok.1 tok.2 (envNil) (fn := Try.f59) (c := c59) (by kernel_rfl) (by kernel_rfl) (by kernel_rfl) ll59 (fun a => congrFun e59 a)
/-! ### math/bits.Len -/
noncomputable def c48 : Code := Try.f48.body.getD .skip
noncomputable def env48 : Env := mkEnv [(59, i59)]
abbrev ps48 : List PSh := [.d (.i .u64)]
abbrev D48 : Type := pairD (.ty (.i .i64)) (osOf ps48)
noncomputable def lv48 : Nat → Option (LI D48) := fun _ => none
noncomputable def g48 (a0 : Int) : Option (Int) :=
  Option.bind (g59 a0) fun v1 =>
  some (v1)
noncomputable def i48 : FI := ⟨ps48, .ty (.i .i64), fun a0 => g48 a0⟩
theorem e48 : (fun a => i48.G a) = fnEval T Y env48 an i48.ps i48.rs true Try.f48.results.toList lv48 c48 := by kernel_rfl
theorem lo48 : loopsOf c48 = [] := by kernel_rfl
theorem ll48 : LoopsOk T Y env48 an lv48 (finO T true ps48 (.ty (.i .i64)) Try.f48.results.toList) c48 := loopsOk_of (by rw [lo48]; exact trivial)
theorem k48 : FnOk Try.prog 48 i48 :=
  fn_ok (T := T) (Y := Y) (an := an) (env := env48) (fr := true) (lenv := lv48) mixed tok.1 tok.2 (envCons k59 (envNil)) (fn := Try.f48) (c := c48) (by kernel_rfl) (by kernel_rfl) (by kernel_rfl) ll48 (fun a => congrFun e48 a)
/-! ### slices.Sort[[]int,int] -/
noncomputable def c45 : Code := Try.f45.body.getD .skip
noncomputable def env45 : Env := mkEnv [(48, i48), (47, i47)]
abbrev ps45 : List PSh := [.io (.ow 1 (.i .i64)) (.ow 1 (.i .i64))]
abbrev D45 : Type := pairD (.un) (osOf ps45)
noncomputable def lv45 : Nat → Option (LI D45) := fun _ => none
noncomputable def g45 (a0 : List Int) : Option (Unit × List Int) :=
  Option.bind (g48 (IntKind.u64.wrap (↑a0.length : Int))) fun v1 =>
  Option.bind (g47 a0 0 (↑a0.length : Int) v1) fun v2 =>
  cond (List.length v2.2 == a0.length && true)
    (some (((), v2.2)))
    (none)
noncomputable def i45 : FI := ⟨ps45, .un, fun a0 => g45 a0⟩
theorem e45 : (fun a => i45.G a) = fnEval T Y env45 an i45.ps i45.rs true Try.f45.results.toList lv45 c45 := by kernel_rfl
theorem lo45 : loopsOf c45 = [] := by kernel_rfl
theorem ll45 : LoopsOk T Y env45 an lv45 (finO T true ps45 (.un) Try.f45.results.toList) c45 := loopsOk_of (by rw [lo45]; exact trivial)
theorem k45 : FnOk Try.prog 45 i45 :=
  fn_ok (T := T) (Y := Y) (an := an) (env := env45) (fr := true) (lenv := lv45) mixed tok.1 tok.2 (envCons k48 (envCons k47 (envNil))) (fn := Try.f45) (c := c45) (by kernel_rfl) (by kernel_rfl) (by kernel_rfl) ll45 (fun a => congrFun e45 a)
/-! ### slices.Compact[[]int,int] -/
noncomputable def c46 : Code := Try.f46.body.getD .skip
noncomputable def env46 : Env := mkEnv []
abbrev ps46 : List PSh := [.ow (.ow 1 (.i .i64))]
abbrev D46 : Type := pairD (.ow 1 (.i .i64)) (osOf ps46)
def ns46_1 : NS := { slots := [(0, .hw 1000000), (3, .ty (.i .i64)), (4, .hd 1000000 false), (5, .ty (.i .i64))], roots := [(1000000, .ar 1 (.i .i64))] }
def ex46_1 : List (Nat × NS) := [(2, { slots := [(0, .hw 1000000), (3, .ty (.i .i64))], roots := [(1000000, .ar 1 (.i .i64))] })]
noncomputable def st46_1 (ih : ((Int × ((Nat × Nat)) × Int) × (List Int)) → Option (((Int) × (List Int)) ⊕ (List Int))) : ((Int × ((Nat × Nat)) × Int) × (List Int)) → Option (((Int) × (List Int)) ⊕ (List Int)) := fun ((t3, (t4_lo, t4_n), t5), r1000000) =>
  cond (decide (t5 < (↑(List.take t4_n (List.drop t4_lo r1000000)).length : Int)))
    (cond (decide (0 ≤ t5) && decide (t5 < (↑t4_n : Int)))
      (cond (decide (t4_lo + t5.toNat < r1000000.length))
        (cond (decide (0 ≤ IntKind.i64.wrap (t5 - 1)) && decide (IntKind.i64.wrap (t5 - 1) < (↑t4_n : Int)))
          (cond (decide (t4_lo + (IntKind.i64.wrap (t5 - 1)).toNat < r1000000.length))
            (cond (r1000000.getD (t4_lo + t5.toNat) 0 != r1000000.getD (t4_lo + (IntKind.i64.wrap (t5 - 1)).toNat) 0)
              (cond (decide (0 ≤ t5) && decide (t5 < (↑t4_n : Int)))
                (cond (decide (t4_lo + t5.toNat < r1000000.length))
                  (cond (decide (0 ≤ t3) && decide (t3 < (↑r1000000.length : Int)))
                    (cond (decide (t3.toNat < r1000000.length))
                      (ih ((IntKind.i64.wrap (t3 + 1), (t4_lo, t4_n), IntKind.i64.wrap (t5 + 1)), r1000000.set t3.toNat (r1000000.getD (t4_lo + t5.toNat) 0)))
                      (none))
                    (none))
                  (none))
                (none))
              (ih ((t3, (t4_lo, t4_n), IntKind.i64.wrap (t5 + 1)), r1000000)))
            (none))
          (none))
        (none))
      (none))
    (some (Sum.inl (t3, r1000000)))
noncomputable def h46_1 : ((Int × ((Nat × Nat)) × Int) × (List Int)) → Option (((Int) × (List Int)) ⊕ (List Int)) := loopN st46_1 fuel
noncomputable def l46_1 : LI D46 := ⟨ns46_1, ex46_1, h46_1⟩
def ns46_0 : NS := { slots := [(0, .hw 1000000), (3, .ty (.i .i64))], roots := [(1000000, .ar 1 (.i .i64))] }
def ex46_0 : List (Nat × NS) := [(0, { slots := [(0, .hw 1000000)], roots := [(1000000, .ar 1 (.i .i64))] })]
noncomputable def st46_0 (ih : ((Int) × (List Int)) → Option (((Unit) × (List Int)) ⊕ (List Int))) : ((Int) × (List Int)) → Option (((Unit) × (List Int)) ⊕ (List Int)) := fun (t3, r1000000) =>
  cond (decide (t3 < (↑r1000000.length : Int)))
    (cond (decide (0 ≤ t3) && decide (t3 < (↑r1000000.length : Int)))
      (cond (decide (t3.toNat < r1000000.length))
        (cond (decide (0 ≤ IntKind.i64.wrap (t3 - 1)) && decide (IntKind.i64.wrap (t3 - 1) < (↑r1000000.length : Int)))
          (cond (decide ((IntKind.i64.wrap (t3 - 1)).toNat < r1000000.length))
            (cond (r1000000.getD t3.toNat 0 == r1000000.getD (IntKind.i64.wrap (t3 - 1)).toNat 0)
              (cond (decide (0 ≤ t3) && decide (t3 ≤ (↑r1000000.length : Int)) && true)
                (Option.bind (h46_1 ((t3, (t3.toNat, r1000000.length - t3.toNat), 1), r1000000)) fun v1 =>
                match v1 with
                | .inl x2 =>
                  cond (decide (0 ≤ x2.1) && decide (x2.1 ≤ (↑(List.length x2.2) : Int)) && true)
                    (cond (decide (Int.toNat x2.1 + (List.length x2.2 - Int.toNat x2.1) ≤ List.length x2.2))
                      (cond (decide (0 ≤ x2.1) && decide (x2.1 ≤ (↑(List.take (Int.toNat x2.1) x2.2 ++ (List.replicate (List.length x2.2 - Int.toNat x2.1) 0 ++ List.drop (Int.toNat x2.1 + (List.replicate (List.length x2.2 - Int.toNat x2.1) (0 : Int)).length) x2.2)).length : Int)) && true)
                        (some (Sum.inr (List.take (Int.toNat x2.1 - 0) (List.drop 0 (List.take (Int.toNat x2.1) x2.2 ++ (List.replicate (List.length x2.2 - Int.toNat x2.1) 0 ++ List.drop (Int.toNat x2.1 + (List.replicate (List.length x2.2 - Int.toNat x2.1) (0 : Int)).length) x2.2))))))
                        (none))
                      (none))
                    (none)
                | .inr x2 =>
                  some (Sum.inr x2))
                (none))
              (ih (IntKind.i64.wrap (t3 + 1), r1000000)))
            (none))
          (none))
        (none))
      (none))
    (some (Sum.inl ((), r1000000)))
noncomputable def h46_0 : ((Int) × (List Int)) → Option (((Unit) × (List Int)) ⊕ (List Int)) := loopN st46_0 fuel
noncomputable def l46_0 : LI D46 := ⟨ns46_0, ex46_0, h46_0⟩
noncomputable def lv46 : Nat → Option (LI D46) := fun q => if q = 4 then some l46_0 else (fun q => if q = 9 then some l46_1 else (fun _ => none) q) q
noncomputable def g46 (a0 : List Int) : Option (List Int) :=
  cond (decide ((↑a0.length : Int) < 2))
    (some (a0))
    (Option.bind (h46_0 (1, a0)) fun v1 =>
    match v1 with
    | .inl x2 =>
      some (x2.2)
    | .inr x2 =>
      some (x2))
noncomputable def i46 : FI := ⟨ps46, .ow 1 (.i .i64), fun a0 => g46 a0⟩
theorem s46_1 : st46_1 = stepEval T Y env46 an lv46 (finO T false ps46 (.ow 1 (.i .i64)) Try.f46.results.toList) (loopAt c46 1) ns46_1 ex46_1 := by kernel_rfl
theorem s46_0 : st46_0 = stepEval T Y env46 an lv46 (finO T false ps46 (.ow 1 (.i .i64)) Try.f46.results.toList) (loopAt c46 0) ns46_0 ex46_0 := by kernel_rfl
theorem e46 : (fun a => i46.G a) = fnEval T Y env46 an i46.ps i46.rs false Try.f46.results.toList lv46 c46 := by kernel_rfl
theorem lo46 : loopsOf c46 = [loopAt c46 0, loopAt c46 1] := by kernel_rfl
theorem ll46 : LoopsOk T Y env46 an lv46 (finO T false ps46 (.ow 1 (.i .i64)) Try.f46.results.toList) c46 := loopsOk_of (by rw [lo46]; exact ⟨loop1 (li := l46_0) (by kernel_rfl) (by kernel_rfl) s46_0, ⟨loop1 (li := l46_1) (by kernel_rfl) (by kernel_rfl) s46_1, trivial⟩⟩)
theorem k46 : FnOk Try.prog 46 i46 :=
  fn_ok (T := T) (Y := Y) (an := an) (env := env46) (fr := false) (lenv := lv46) mixed tok.1 tok.2 (envNil) (fn := Try.f46) (c := c46) (by kernel_rfl) (by kernel_rfl) (by kernel_rfl) ll46 (fun a => congrFun e46 a)
/-! ### broker/brokerref39.Set -/
noncomputable def c43 : Code := Try.f43.body.getD .skip
noncomputable def env43 : Env := mkEnv [(38, i38), (45, i45), (46, i46)]
abbrev ps43 : List PSh := [.d (.sl (.i .i64))]
abbrev D43 : Type := pairD (.ow 1 (.i .i64)) (osOf ps43)
noncomputable def lv43 : Nat → Option (LI D43) := fun _ => none
noncomputable def g43 (a0 : List Int) : Option (List Int) :=
  Option.bind (g38 a0) fun v1 =>
  Option.bind (g45 v1) fun v2 =>
  cond (List.length v2.2 == List.length v1 && true)
    (Option.bind (g46 v2.2) fun v3 =>
    some (v3))
    (none)
noncomputable def i43 : FI := ⟨ps43, .ow 1 (.i .i64), fun a0 => g43 a0⟩
theorem e43 : (fun a => i43.G a) = fnEval T Y env43 an i43.ps i43.rs false Try.f43.results.toList lv43 c43 := by kernel_rfl
theorem lo43 : loopsOf c43 = [] := by kernel_rfl
theorem ll43 : LoopsOk T Y env43 an lv43 (finO T false ps43 (.ow 1 (.i .i64)) Try.f43.results.toList) c43 := loopsOk_of (by rw [lo43]; exact trivial)
theorem k43 : FnOk Try.prog 43 i43 :=
  fn_ok (T := T) (Y := Y) (an := an) (env := env43) (fr := false) (lenv := lv43) mixed tok.1 tok.2 (envCons k38 (envCons k45 (envCons k46 (envNil)))) (fn := Try.f43) (c := c43) (by kernel_rfl) (by kernel_rfl) (by kernel_rfl) ll43 (fun a => congrFun e43 a)
/-! ### broker/brokerref40.Clone -/
noncomputable def c39 : Code := Try.f39.body.getD .skip
noncomputable def env39 : Env := mkEnv [(38, i38)]
abbrev ps39 : List PSh := [.d (.st (.pr (.i .i64) (.pr (.i .i64) (.pr (.i .i64) (.pr (.i .i64) (.pr (.i .i64) (.pr (.i .i64) (.sl (.i .i64)))))))))]
abbrev D39 : Type := pairD (.ag (.pr (.ty (.i .i64)) (.pr (.ty (.i .i64)) (.pr (.ty (.i .i64)) (.pr (.ty (.i .i64)) (.pr (.ty (.i .i64)) (.pr (.ty (.i .i64)) (.ow 1 (.i .i64))))))))) (osOf ps39)
noncomputable def lv39 : Nat → Option (LI D39) := fun _ => none
noncomputable def g39 (a0_0 : Int) (a0_1 : Int) (a0_2 : Int) (a0_3 : Int) (a0_4 : Int) (a0_5 : Int) (a0_6 : List Int) : Option (Int × Int × Int × Int × Int × Int × List Int) :=
  Option.bind (g38 a0_6) fun v1 =>
  some ((a0_0, a0_1, a0_2, a0_3, a0_4, a0_5, v1))
noncomputable def i39 : FI := ⟨ps39, .ag (.pr (.ty (.i .i64)) (.pr (.ty (.i .i64)) (.pr (.ty (.i .i64)) (.pr (.ty (.i .i64)) (.pr (.ty (.i .i64)) (.pr (.ty (.i .i64)) (.ow 1 (.i .i64)))))))), fun (a0_0, a0_1, a0_2, a0_3, a0_4, a0_5, a0_6) => g39 a0_0 a0_1 a0_2 a0_3 a0_4 a0_5 a0_6⟩
theorem e39 : (fun a => i39.G a) = fnEval T Y env39 an i39.ps i39.rs false Try.f39.results.toList lv39 c39 := by kernel_rfl
theorem lo39 : loopsOf c39 = [] := by kernel_rfl
theorem ll39 : LoopsOk T Y env39 an lv39 (finO T false ps39 (.ag (.pr (.ty (.i .i64)) (.pr (.ty (.i .i64)) (.pr (.ty (.i .i64)) (.pr (.ty (.i .i64)) (.pr (.ty (.i .i64)) (.pr (.ty (.i .i64)) (.ow 1 (.i .i64))))))))) Try.f39.results.toList) c39 := loopsOk_of (by rw [lo39]; exact trivial)
theorem k39 : FnOk Try.prog 39 i39 :=
  fn_ok (T := T) (Y := Y) (an := an) (env := env39) (fr := false) (lenv := lv39) mixed tok.1 tok.2 (envCons k38 (envNil)) (fn := Try.f39) (c := c39) (by kernel_rfl) (by kernel_rfl) (by kernel_rfl) ll39 (fun a => congrFun e39 a)
/-! ### broker/brokerref40.lead -/
noncomputable def c40 : Code := Try.f40.body.getD .skip
noncomputable def env40 : Env := mkEnv []
abbrev ps40 : List PSh := [.d (.st (.pr (.i .i64) (.pr (.i .i64) (.pr (.i .i64) (.pr (.i .i64) (.pr (.i .i64) (.pr (.i .i64) (.sl (.i .i64)))))))))]
abbrev D40 : Type := pairD (.ty (.st (.pr (.i .i64) (.pr (.i .i64) (.pr (.i .i64) (.pr (.i .i64) (.pr (.i .i64) (.pr (.i .i64) (.sl (.i .i64)))))))))) (osOf ps40)
noncomputable def lv40 : Nat → Option (LI D40) := fun _ => none
noncomputable def g40 (a0_0 : Int) (a0_1 : Int) (a0_2 : Int) (a0_3 : Int) (a0_4 : Int) (a0_5 : Int) (a0_6 : List Int) : Option (Int × Int × Int × Int × Int × Int × List Int) :=
  some ((a0_0, a0_1, a0_2, 2, a0_0, a0_0, []))
noncomputable def i40 : FI := ⟨ps40, .ty (.st (.pr (.i .i64) (.pr (.i .i64) (.pr (.i .i64) (.pr (.i .i64) (.pr (.i .i64) (.pr (.i .i64) (.sl (.i .i64))))))))), fun (a0_0, a0_1, a0_2, a0_3, a0_4, a0_5, a0_6) => g40 a0_0 a0_1 a0_2 a0_3 a0_4 a0_5 a0_6⟩
theorem e40 : (fun a => i40.G a) = fnEval T Y env40 an i40.ps i40.rs true Try.f40.results.toList lv40 c40 := by kernel_rfl
theorem lo40 : loopsOf c40 = [] := by kernel_rfl
theorem ll40 : LoopsOk T Y env40 an lv40 (finO T true ps40 (.ty (.st (.pr (.i .i64) (.pr (.i .i64) (.pr (.i .i64) (.pr (.i .i64) (.pr (.i .i64) (.pr (.i .i64) (.sl (.i .i64)))))))))) Try.f40.results.toList) c40 := loopsOk_of (by rw [lo40]; exact trivial)
theorem k40 : FnOk Try.prog 40 i40 :=
  fn_ok (T := T) (Y := Y) (an := an) (env := env40) (fr := true) (lenv := lv40) mixed tok.1 tok.2 (envNil) (fn := Try.f40) (c := c40) (by kernel_rfl) (by kernel_rfl) (by kernel_rfl) ll40 (fun a => congrFun e40 a)
/-! ### broker/brokerref40.Concerns -/
noncomputable def c41 : Code := Try.f41.body.getD .skip
noncomputable def env41 : Env := mkEnv [(20, i20)]
abbrev ps41 : List PSh := [.d (.st (.pr (.i .i64) (.pr (.i .i64) (.pr (.i .i64) (.pr (.i .i64) (.pr (.i .i64) (.pr (.i .i64) (.sl (.i .i64))))))))), .d (.st (.pr (.i .i64) (.pr (.i .i64) (.pr (.i .i64) (.pr (.i .i64) (.pr (.i .i64) (.pr (.i .i64) (.pr (.i .i64) (.pr .b (.sl (.st (.pr (.i .i64) .s))))))))))))]
abbrev D41 : Type := pairD (.ty .b) (osOf ps41)
noncomputable def lv41 : Nat → Option (LI D41) := fun _ => none
noncomputable def g41 (a0_0 : Int) (a0_1 : Int) (a0_2 : Int) (a0_3 : Int) (a0_4 : Int) (a0_5 : Int) (a0_6 : List Int) (a1_0 : Int) (a1_1 : Int) (a1_2 : Int) (a1_3 : Int) (a1_4 : Int) (a1_5 : Int) (a1_6 : Int) (a1_7 : Bool) (a1_8 : List (Int × List UInt8)) : Option (Bool) :=
  cond (a1_2 == a0_0)
    (cond (a1_1 != a0_0)
      (Option.bind (g20 a1_1 0 (IntKind.i64.wrap (a0_1 - 1))) fun v1 =>
      cond (v1)
        (Option.bind (g20 a1_3 1 1099511627776) fun v2 =>
        some (v2))
        (some (false)))
      (some (false)))
    (some (false))
noncomputable def i41 : FI := ⟨ps41, .ty .b, fun ((a0_0, a0_1, a0_2, a0_3, a0_4, a0_5, a0_6), (a1_0, a1_1, a1_2, a1_3, a1_4, a1_5, a1_6, a1_7, a1_8)) => g41 a0_0 a0_1 a0_2 a0_3 a0_4 a0_5 a0_6 a1_0 a1_1 a1_2 a1_3 a1_4 a1_5 a1_6 a1_7 a1_8⟩
theorem e41 : (fun a => i41.G a) = fnEval T Y env41 an i41.ps i41.rs true Try.f41.results.toList lv41 c41 := by kernel_rfl
theorem lo41 : loopsOf c41 = [] := by kernel_rfl
theorem ll41 : LoopsOk T Y env41 an lv41 (finO T true ps41 (.ty .b) Try.f41.results.toList) c41 := loopsOk_of (by rw [lo41]; exact trivial)
theorem k41 : FnOk Try.prog 41 i41 :=
  fn_ok (T := T) (Y := Y) (an := an) (env := env41) (fr := true) (lenv := lv41) mixed tok.1 tok.2 (envCons k20 (envNil)) (fn := Try.f41) (c := c41) (by kernel_rfl) (by kernel_rfl) (by kernel_rfl) ll41 (fun a => congrFun e41 a)
/-! ### slices.Equal[[]broker/api.Command,broker/api.Command] -/
noncomputable def c42 : Code := Try.f42.body.getD .skip
noncomputable def env42 : Env := mkEnv []
abbrev ps42 : List PSh := [.d (.sl (.st (.pr (.i .i64) .s))), .d (.sl (.st (.pr (.i .i64) .s)))]
abbrev D42 : Type := pairD (.ty .b) (osOf ps42)
def ns42_0 : NS := { slots := [(0, .ty (.sl (.st (.pr (.i .i64) .s)))), (1, .ty (.sl (.st (.pr (.i .i64) .s)))), (12, .ty (.i .i64)), (13, .ty (.i .i64))], roots := [] }
def ex42_0 : List (Nat × NS) := [(0, { slots := [], roots := [] })]
noncomputable def st42_0 (ih : (((List (Int × List UInt8)) × (List (Int × List UInt8)) × Int × Int) × (Unit)) → Option (((Unit) × (Unit)) ⊕ Bool)) : (((List (Int × List UInt8)) × (List (Int × List UInt8)) × Int × Int) × (Unit)) → Option (((Unit) × (Unit)) ⊕ Bool) := fun ((t0, t1, t12, t13), ()) =>
  cond (decide (t13 < t12))
    (cond (decide (0 ≤ t13) && decide (t13 < (↑t0.length : Int)))
      (cond (decide (0 ≤ t13) && decide (t13 < (↑t1.length : Int)))
        (cond (!((t0.getD t13.toNat (0, [])).1 == (t1.getD t13.toNat (0, [])).1 && ((t0.getD t13.toNat (0, [])).2 == (t1.getD t13.toNat (0, [])).2 && true)))
          (some (Sum.inr false))
          (ih ((t0, t1, t12, IntKind.i64.wrap (t13 + 1)), ())))
        (none))
      (none))
    (some (Sum.inl ((), ())))
noncomputable def h42_0 : (((List (Int × List UInt8)) × (List (Int × List UInt8)) × Int × Int) × (Unit)) → Option (((Unit) × (Unit)) ⊕ Bool) := loopN st42_0 fuel
noncomputable def l42_0 : LI D42 := ⟨ns42_0, ex42_0, h42_0⟩
noncomputable def lv42 : Nat → Option (LI D42) := fun q => if q = 4 then some l42_0 else (fun _ => none) q
noncomputable def g42 (a0 : List (Int × List UInt8)) (a1 : List (Int × List UInt8)) : Option (Bool) :=
  cond ((↑a0.length : Int) != (↑a1.length : Int))
    (some (false))
    (Option.bind (h42_0 ((a0, a1, (↑a0.length : Int), 0), ())) fun v1 =>
    match v1 with
    | .inl x2 =>
      some (true)
    | .inr x2 =>
      some (x2))
noncomputable def i42 : FI := ⟨ps42, .ty .b, fun (a0, a1) => g42 a0 a1⟩
theorem s42_0 : st42_0 = stepEval T Y env42 an lv42 (finO T true ps42 (.ty .b) Try.f42.results.toList) (loopAt c42 0) ns42_0 ex42_0 := by kernel_rfl
theorem e42 : (fun a => i42.G a) = fnEval T Y env42 an i42.ps i42.rs true Try.f42.results.toList lv42 c42 := by kernel_rfl
theorem lo42 : loopsOf c42 = [loopAt c42 0] := by kernel_rfl
theorem ll42 : LoopsOk T Y env42 an lv42 (finO T true ps42 (.ty .b) Try.f42.results.toList) c42 := loopsOk_of (by rw [lo42]; exact ⟨loop1 (li := l42_0) (by kernel_rfl) (by kernel_rfl) s42_0, trivial⟩)
theorem k42 : FnOk Try.prog 42 i42 :=
  fn_ok (T := T) (Y := Y) (an := an) (env := env42) (fr := true) (lenv := lv42) mixed tok.1 tok.2 (envNil) (fn := Try.f42) (c := c42) (by kernel_rfl) (by kernel_rfl) (by kernel_rfl) ll42 (fun a => congrFun e42 a)
/-! ### broker/brokerref40.Campaign -/
noncomputable def c30 : Code := Try.f30.body.getD .skip
noncomputable def env30 : Env := mkEnv [(39, i39), (40, i40)]
abbrev ps30 : List PSh := [.d (.st (.pr (.i .i64) (.pr (.i .i64) (.pr (.i .i64) (.pr (.i .i64) (.pr (.i .i64) (.pr (.i .i64) (.sl (.i .i64))))))))), .d (.i .i64), .d (.i .i64)]
abbrev D30 : Type := pairD (.tup (.pr (.ty (.st (.pr (.i .i64) (.pr (.i .i64) (.pr (.i .i64) (.pr (.i .i64) (.pr (.i .i64) (.pr (.i .i64) (.sl (.i .i64)))))))))) (.ty (.sl (.st (.pr (.i .i64) (.pr (.i .i64) (.pr (.i .i64) (.pr (.i .i64) (.pr (.i .i64) (.pr (.i .i64) (.pr (.i .i64) (.pr .b (.sl (.st (.pr (.i .i64) .s)))))))))))))))) (osOf ps30)
def ns30_0 : NS := { slots := [(3, .pt 3 []), (6, .pt 6 []), (8, .pt 8 []), (9, .hw 53), (1, .ty (.i .i64)), (2, .ty (.i .i64)), (35, .ty (.i .i64)), (36, .ty (.i .i64))], roots := [(53, .ar 9 (.st (.pr (.i .i64) (.pr (.i .i64) (.pr (.i .i64) (.pr (.i .i64) (.pr (.i .i64) (.pr (.i .i64) (.pr (.i .i64) (.pr .b (.sl (.st (.pr (.i .i64) .s))))))))))))), (8, .ag (.pr (.ty (.i .i64)) (.pr (.ty (.i .i64)) (.pr (.ty (.i .i64)) (.pr (.ty (.i .i64)) (.pr (.ty (.i .i64)) (.pr (.ty (.i .i64)) (.hw 27)))))))), (6, .ty (.st (.pr (.i .i64) (.pr (.i .i64) (.pr (.i .i64) (.pr (.i .i64) (.pr (.i .i64) (.pr (.i .i64) (.sl (.i .i64)))))))))), (3, .ty (.st (.pr (.i .i64) (.pr (.i .i64) (.pr (.i .i64) (.pr (.i .i64) (.pr (.i .i64) (.pr (.i .i64) (.sl (.i .i64)))))))))), (27, .ar 1 (.i .i64))], ad := [{ t := 9, path := [], g := 53, d := 9, τ := (.st (.pr (.i .i64) (.pr (.i .i64) (.pr (.i .i64) (.pr (.i .i64) (.pr (.i .i64) (.pr (.i .i64) (.pr (.i .i64) (.pr .b (.sl (.st (.pr (.i .i64) .s))))))))))) : Ty) }] }
def ex30_0 : List (Nat × NS) := [(0, { slots := [(6, .pt 6 []), (8, .pt 8 []), (9, .hw 53)], roots := [(53, .ar 9 (.st (.pr (.i .i64) (.pr (.i .i64) (.pr (.i .i64) (.pr (.i .i64) (.pr (.i .i64) (.pr (.i .i64) (.pr (.i .i64) (.pr .b (.sl (.st (.pr (.i .i64) .s))))))))))))), (8, .ag (.pr (.ty (.i .i64)) (.pr (.ty (.i .i64)) (.pr (.ty (.i .i64)) (.pr (.ty (.i .i64)) (.pr (.ty (.i .i64)) (.pr (.ty (.i .i64)) (.hw 27)))))))), (6, .ty (.st (.pr (.i .i64) (.pr (.i .i64) (.pr (.i .i64) (.pr (.i .i64) (.pr (.i .i64) (.pr (.i .i64) (.sl (.i .i64)))))))))), (27, .ar 1 (.i .i64))] })]
noncomputable def st30_0 (ih : ((Int × Int × Int × Int) × ((List (Int × Int × Int × Int × Int × Int × Int × Bool × List (Int × List UInt8))) × (Int × Int × Int × Int × Int × Int × Unit) × (Int × Int × Int × Int × Int × Int × List Int) × (Int × Int × Int × Int × Int × Int × List Int) × List Int)) → Option (((Unit) × ((List (Int × Int × Int × Int × Int × Int × Int × Bool × List (Int × List UInt8))) × (Int × Int × Int × Int × Int × Int × Unit) × (Int × Int × Int × Int × Int × Int × List Int) × List Int)) ⊕ (((Int × Int × Int × Int × Int × Int × List Int) × List (Int × Int × Int × Int × Int × Int × Int × Bool × List (Int × List UInt8)))))) : ((Int × Int × Int × Int) × ((List (Int × Int × Int × Int × Int × Int × Int × Bool × List (Int × List UInt8))) × (Int × Int × Int × Int × Int × Int × Unit) × (Int × Int × Int × Int × Int × Int × List Int) × (Int × Int × Int × Int × Int × Int × List Int) × List Int)) → Option (((Unit) × ((List (Int × Int × Int × Int × Int × Int × Int × Bool × List (Int × List UInt8))) × (Int × Int × Int × Int × Int × Int × Unit) × (Int × Int × Int × Int × Int × Int × List Int) × List Int)) ⊕ (((Int × Int × Int × Int × Int × Int × List Int) × List (Int × Int × Int × Int × Int × Int × Int × Bool × List (Int × List UInt8))))) := fun ((t1, t2, t35, t36), (r53, (r8_0, r8_1, r8_2, r8_3, r8_4, r8_5, ()), (r6_0, r6_1, r6_2, r6_3, r6_4, r6_5, r6_6), (r3_0, r3_1, r3_2, r3_3, r3_4, r3_5, r3_6), r27)) =>
  cond (decide (t36 < t35))
    (cond (t36 != r3_0)
      (cond (decide (r53.length + 1 ≤ 2147483647))
        (ih ((t1, t2, t35, IntKind.i64.wrap (t36 + 1)), r53 ++ [(1, r3_0, t36, r8_2, t1, t2, 0, false, [])], (r8_0, r8_1, r8_2, r8_3, r8_4, r8_5, ()), (r6_0, r6_1, r6_2, r6_3, r6_4, r6_5, r6_6), (r3_0, r3_1, r3_2, r3_3, r3_4, r3_5, r3_6), r27))
        (none))
      (ih ((t1, t2, t35, IntKind.i64.wrap (t36 + 1)), r53, (r8_0, r8_1, r8_2, r8_3, r8_4, r8_5, ()), (r6_0, r6_1, r6_2, r6_3, r6_4, r6_5, r6_6), (r3_0, r3_1, r3_2, r3_3, r3_4, r3_5, r3_6), r27)))
    (some (Sum.inl ((), r53, (r8_0, r8_1, r8_2, r8_3, r8_4, r8_5, ()), (r6_0, r6_1, r6_2, r6_3, r6_4, r6_5, r6_6), r27)))
noncomputable def h30_0 : ((Int × Int × Int × Int) × ((List (Int × Int × Int × Int × Int × Int × Int × Bool × List (Int × List UInt8))) × (Int × Int × Int × Int × Int × Int × Unit) × (Int × Int × Int × Int × Int × Int × List Int) × (Int × Int × Int × Int × Int × Int × List Int) × List Int)) → Option (((Unit) × ((List (Int × Int × Int × Int × Int × Int × Int × Bool × List (Int × List UInt8))) × (Int × Int × Int × Int × Int × Int × Unit) × (Int × Int × Int × Int × Int × Int × List Int) × List Int)) ⊕ (((Int × Int × Int × Int × Int × Int × List Int) × List (Int × Int × Int × Int × Int × Int × Int × Bool × List (Int × List UInt8))))) := loopN st30_0 fuel
noncomputable def l30_0 : LI D30 := ⟨ns30_0, ex30_0, h30_0⟩
noncomputable def lv30 : Nat → Option (LI D30) := fun q => if q = 8 then some l30_0 else (fun _ => none) q
noncomputable def g30 (a0_0 : Int) (a0_1 : Int) (a0_2 : Int) (a0_3 : Int) (a0_4 : Int) (a0_5 : Int) (a0_6 : List Int) (a1 : Int) (a2 : Int) : Option ((Int × Int × Int × Int × Int × Int × List Int) × List (Int × Int × Int × Int × Int × Int × Int × Bool × List (Int × List UInt8))) :=
  cond (decide (a0_2 ≥ 1099511627776))
    (Option.bind (g39 a0_0 a0_1 a0_2 a0_3 a0_4 a0_5 a0_6) fun v1 =>
    some ((v1, [])))
    (cond (a0_1 == 1)
      (Option.bind (g40 a0_0 a0_1 (IntKind.i64.wrap (a0_2 + 1)) 1 a0_0 (-1) [a0_0]) fun v2 =>
      some ((v2, [])))
      (Option.bind (h30_0 ((a1, a2, a0_1, 0), [], (a0_0, a0_1, IntKind.i64.wrap (a0_2 + 1), 1, a0_0, -1, ()), (0, 0, 0, 0, 0, 0, []), (a0_0, a0_1, a0_2, a0_3, a0_4, a0_5, a0_6), [a0_0])) fun v3 =>
      match v3 with
      | .inl x4 =>
        some (((x4.2.2.1.1, x4.2.2.1.2.1, x4.2.2.1.2.2.1, x4.2.2.1.2.2.2.1, x4.2.2.1.2.2.2.2.1, x4.2.2.1.2.2.2.2.2.1, x4.2.2.2.2), x4.2.1))
      | .inr x4 =>
        some (x4)))
noncomputable def i30 : FI := ⟨ps30, .tup (.pr (.ty (.st (.pr (.i .i64) (.pr (.i .i64) (.pr (.i .i64) (.pr (.i .i64) (.pr (.i .i64) (.pr (.i .i64) (.sl (.i .i64)))))))))) (.ty (.sl (.st (.pr (.i .i64) (.pr (.i .i64) (.pr (.i .i64) (.pr (.i .i64) (.pr (.i .i64) (.pr (.i .i64) (.pr (.i .i64) (.pr .b (.sl (.st (.pr (.i .i64) .s))))))))))))))), fun ((a0_0, a0_1, a0_2, a0_3, a0_4, a0_5, a0_6), a1, a2) => g30 a0_0 a0_1 a0_2 a0_3 a0_4 a0_5 a0_6 a1 a2⟩
theorem s30_0 : st30_0 = stepEval T Y env30 an lv30 (finO T true ps30 (.tup (.pr (.ty (.st (.pr (.i .i64) (.pr (.i .i64) (.pr (.i .i64) (.pr (.i .i64) (.pr (.i .i64) (.pr (.i .i64) (.sl (.i .i64)))))))))) (.ty (.sl (.st (.pr (.i .i64) (.pr (.i .i64) (.pr (.i .i64) (.pr (.i .i64) (.pr (.i .i64) (.pr (.i .i64) (.pr (.i .i64) (.pr .b (.sl (.st (.pr (.i .i64) .s)))))))))))))))) Try.f30.results.toList) (loopAt c30 0) ns30_0 ex30_0 := by kernel_rfl
theorem e30 : (fun a => i30.G a) = fnEval T Y env30 an i30.ps i30.rs true Try.f30.results.toList lv30 c30 := by kernel_rfl
theorem lo30 : loopsOf c30 = [loopAt c30 0] := by kernel_rfl
theorem ll30 : LoopsOk T Y env30 an lv30 (finO T true ps30 (.tup (.pr (.ty (.st (.pr (.i .i64) (.pr (.i .i64) (.pr (.i .i64) (.pr (.i .i64) (.pr (.i .i64) (.pr (.i .i64) (.sl (.i .i64)))))))))) (.ty (.sl (.st (.pr (.i .i64) (.pr (.i .i64) (.pr (.i .i64) (.pr (.i .i64) (.pr (.i .i64) (.pr (.i .i64) (.pr (.i .i64) (.pr .b (.sl (.st (.pr (.i .i64) .s)))))))))))))))) Try.f30.results.toList) c30 := loopsOk_of (by rw [lo30]; exact ⟨loop1 (li := l30_0) (by kernel_rfl) (by kernel_rfl) s30_0, trivial⟩)
theorem k30 : FnOk Try.prog 30 i30 :=
  fn_ok (T := T) (Y := Y) (an := an) (env := env30) (fr := true) (lenv := lv30) mixed tok.1 tok.2 (envCons k39 (envCons k40 (envNil))) (fn := Try.f30) (c := c30) (by kernel_rfl) (by kernel_rfl) (by kernel_rfl) ll30 (fun a => congrFun e30 a)
/-! ### broker/brokerref40.SameLetter -/
noncomputable def c34 : Code := Try.f34.body.getD .skip
noncomputable def env34 : Env := mkEnv [(42, i42)]
abbrev ps34 : List PSh := [.d (.st (.pr (.i .i64) (.pr (.i .i64) (.pr (.i .i64) (.pr (.i .i64) (.pr (.i .i64) (.pr (.i .i64) (.pr (.i .i64) (.pr .b (.sl (.st (.pr (.i .i64) .s)))))))))))), .d (.st (.pr (.i .i64) (.pr (.i .i64) (.pr (.i .i64) (.pr (.i .i64) (.pr (.i .i64) (.pr (.i .i64) (.pr (.i .i64) (.pr .b (.sl (.st (.pr (.i .i64) .s))))))))))))]
abbrev D34 : Type := pairD (.ty .b) (osOf ps34)
noncomputable def lv34 : Nat → Option (LI D34) := fun _ => none
noncomputable def g34 (a0_0 : Int) (a0_1 : Int) (a0_2 : Int) (a0_3 : Int) (a0_4 : Int) (a0_5 : Int) (a0_6 : Int) (a0_7 : Bool) (a0_8 : List (Int × List UInt8)) (a1_0 : Int) (a1_1 : Int) (a1_2 : Int) (a1_3 : Int) (a1_4 : Int) (a1_5 : Int) (a1_6 : Int) (a1_7 : Bool) (a1_8 : List (Int × List UInt8)) : Option (Bool) :=
  cond (a0_0 == a1_0)
    (cond (a0_1 == a1_1)
      (cond (a0_2 == a1_2)
        (cond (a0_3 == a1_3)
          (cond (a0_4 == a1_4)
            (cond (a0_5 == a1_5)
              (cond (a0_6 == a1_6)
                (cond (a0_7 == a1_7)
                  (Option.bind (g42 a0_8 a1_8) fun v1 =>
                  some (v1))
                  (some (false)))
                (some (false)))
              (some (false)))
            (some (false)))
          (some (false)))
        (some (false)))
      (some (false)))
    (some (false))
noncomputable def i34 : FI := ⟨ps34, .ty .b, fun ((a0_0, a0_1, a0_2, a0_3, a0_4, a0_5, a0_6, a0_7, a0_8), (a1_0, a1_1, a1_2, a1_3, a1_4, a1_5, a1_6, a1_7, a1_8)) => g34 a0_0 a0_1 a0_2 a0_3 a0_4 a0_5 a0_6 a0_7 a0_8 a1_0 a1_1 a1_2 a1_3 a1_4 a1_5 a1_6 a1_7 a1_8⟩
theorem e34 : (fun a => i34.G a) = fnEval T Y env34 an i34.ps i34.rs true Try.f34.results.toList lv34 c34 := by kernel_rfl
theorem lo34 : loopsOf c34 = [] := by kernel_rfl
theorem ll34 : LoopsOk T Y env34 an lv34 (finO T true ps34 (.ty .b) Try.f34.results.toList) c34 := loopsOk_of (by rw [lo34]; exact trivial)
theorem k34 : FnOk Try.prog 34 i34 :=
  fn_ok (T := T) (Y := Y) (an := an) (env := env34) (fr := true) (lenv := lv34) mixed tok.1 tok.2 (envCons k42 (envNil)) (fn := Try.f34) (c := c34) (by kernel_rfl) (by kernel_rfl) (by kernel_rfl) ll34 (fun a => congrFun e34 a)
/-! ### broker/brokerref40.SameLetters -/
noncomputable def c31 : Code := Try.f31.body.getD .skip
noncomputable def env31 : Env := mkEnv [(34, i34)]
abbrev ps31 : List PSh := [.d (.sl (.st (.pr (.i .i64) (.pr (.i .i64) (.pr (.i .i64) (.pr (.i .i64) (.pr (.i .i64) (.pr (.i .i64) (.pr (.i .i64) (.pr .b (.sl (.st (.pr (.i .i64) .s))))))))))))), .d (.sl (.st (.pr (.i .i64) (.pr (.i .i64) (.pr (.i .i64) (.pr (.i .i64) (.pr (.i .i64) (.pr (.i .i64) (.pr (.i .i64) (.pr .b (.sl (.st (.pr (.i .i64) .s)))))))))))))]
abbrev D31 : Type := pairD (.ty .b) (osOf ps31)
def ns31_0 : NS := { slots := [(1, .ty (.sl (.st (.pr (.i .i64) (.pr (.i .i64) (.pr (.i .i64) (.pr (.i .i64) (.pr (.i .i64) (.pr (.i .i64) (.pr (.i .i64) (.pr .b (.sl (.st (.pr (.i .i64) .s)))))))))))))), (12, .ty (.sl (.st (.pr (.i .i64) (.pr (.i .i64) (.pr (.i .i64) (.pr (.i .i64) (.pr (.i .i64) (.pr (.i .i64) (.pr (.i .i64) (.pr .b (.sl (.st (.pr (.i .i64) .s)))))))))))))), (13, .ty (.i .i64)), (14, .ty (.i .i64))], roots := [] }
def ex31_0 : List (Nat × NS) := [(0, { slots := [], roots := [] })]
noncomputable def st31_0 (ih : (((List (Int × Int × Int × Int × Int × Int × Int × Bool × List (Int × List UInt8))) × (List (Int × Int × Int × Int × Int × Int × Int × Bool × List (Int × List UInt8))) × Int × Int) × (Unit)) → Option (((Unit) × (Unit)) ⊕ Bool)) : (((List (Int × Int × Int × Int × Int × Int × Int × Bool × List (Int × List UInt8))) × (List (Int × Int × Int × Int × Int × Int × Int × Bool × List (Int × List UInt8))) × Int × Int) × (Unit)) → Option (((Unit) × (Unit)) ⊕ Bool) := fun ((t1, t12, t13, t14), ()) =>
  cond (decide (t14 < t13))
    (cond (decide (0 ≤ t14) && decide (t14 < (↑t12.length : Int)))
      (cond (decide (0 ≤ t14) && decide (t14 < (↑t1.length : Int)))
        (Option.bind (g34 (t12.getD t14.toNat (0, 0, 0, 0, 0, 0, 0, false, [])).1 (t12.getD t14.toNat (0, 0, 0, 0, 0, 0, 0, false, [])).2.1 (t12.getD t14.toNat (0, 0, 0, 0, 0, 0, 0, false, [])).2.2.1 (t12.getD t14.toNat (0, 0, 0, 0, 0, 0, 0, false, [])).2.2.2.1 (t12.getD t14.toNat (0, 0, 0, 0, 0, 0, 0, false, [])).2.2.2.2.1 (t12.getD t14.toNat (0, 0, 0, 0, 0, 0, 0, false, [])).2.2.2.2.2.1 (t12.getD t14.toNat (0, 0, 0, 0, 0, 0, 0, false, [])).2.2.2.2.2.2.1 (t12.getD t14.toNat (0, 0, 0, 0, 0, 0, 0, false, [])).2.2.2.2.2.2.2.1 (t12.getD t14.toNat (0, 0, 0, 0, 0, 0, 0, false, [])).2.2.2.2.2.2.2.2 (t1.getD t14.toNat (0, 0, 0, 0, 0, 0, 0, false, [])).1 (t1.getD t14.toNat (0, 0, 0, 0, 0, 0, 0, false, [])).2.1 (t1.getD t14.toNat (0, 0, 0, 0, 0, 0, 0, false, [])).2.2.1 (t1.getD t14.toNat (0, 0, 0, 0, 0, 0, 0, false, [])).2.2.2.1 (t1.getD t14.toNat (0, 0, 0, 0, 0, 0, 0, false, [])).2.2.2.2.1 (t1.getD t14.toNat (0, 0, 0, 0, 0, 0, 0, false, [])).2.2.2.2.2.1 (t1.getD t14.toNat (0, 0, 0, 0, 0, 0, 0, false, [])).2.2.2.2.2.2.1 (t1.getD t14.toNat (0, 0, 0, 0, 0, 0, 0, false, [])).2.2.2.2.2.2.2.1 (t1.getD t14.toNat (0, 0, 0, 0, 0, 0, 0, false, [])).2.2.2.2.2.2.2.2) fun v1 =>
        cond (!v1)
          (some (Sum.inr false))
          (ih ((t1, t12, t13, IntKind.i64.wrap (t14 + 1)), ())))
        (none))
      (none))
    (some (Sum.inl ((), ())))
noncomputable def h31_0 : (((List (Int × Int × Int × Int × Int × Int × Int × Bool × List (Int × List UInt8))) × (List (Int × Int × Int × Int × Int × Int × Int × Bool × List (Int × List UInt8))) × Int × Int) × (Unit)) → Option (((Unit) × (Unit)) ⊕ Bool) := loopN st31_0 fuel
noncomputable def l31_0 : LI D31 := ⟨ns31_0, ex31_0, h31_0⟩
noncomputable def lv31 : Nat → Option (LI D31) := fun q => if q = 4 then some l31_0 else (fun _ => none) q
noncomputable def g31 (a0 : List (Int × Int × Int × Int × Int × Int × Int × Bool × List (Int × List UInt8))) (a1 : List (Int × Int × Int × Int × Int × Int × Int × Bool × List (Int × List UInt8))) : Option (Bool) :=
  cond ((↑a0.length : Int) != (↑a1.length : Int))
    (some (false))
    (Option.bind (h31_0 ((a1, a0, (↑a0.length : Int), 0), ())) fun v1 =>
    match v1 with
    | .inl x2 =>
      some (true)
    | .inr x2 =>
      some (x2))
noncomputable def i31 : FI := ⟨ps31, .ty .b, fun (a0, a1) => g31 a0 a1⟩
theorem s31_0 : st31_0 = stepEval T Y env31 an lv31 (finO T true ps31 (.ty .b) Try.f31.results.toList) (loopAt c31 0) ns31_0 ex31_0 := by kernel_rfl
theorem e31 : (fun a => i31.G a) = fnEval T Y env31 an i31.ps i31.rs true Try.f31.results.toList lv31 c31 := by kernel_rfl
theorem lo31 : loopsOf c31 = [loopAt c31 0] := by kernel_rfl
theorem ll31 : LoopsOk T Y env31 an lv31 (finO T true ps31 (.ty .b) Try.f31.results.toList) c31 := loopsOk_of (by rw [lo31]; exact ⟨loop1 (li := l31_0) (by kernel_rfl) (by kernel_rfl) s31_0, trivial⟩)
theorem k31 : FnOk Try.prog 31 i31 :=
  fn_ok (T := T) (Y := Y) (an := an) (env := env31) (fr := true) (lenv := lv31) mixed tok.1 tok.2 (envCons k34 (envNil)) (fn := Try.f31) (c := c31) (by kernel_rfl) (by kernel_rfl) (by kernel_rfl) ll31 (fun a => congrFun e31 a)
/-! ### broker/brokerref40.Observe -/
noncomputable def c32 : Code := Try.f32.body.getD .skip
noncomputable def env32 : Env := mkEnv [(39, i39)]
abbrev ps32 : List PSh := [.d (.st (.pr (.i .i64) (.pr (.i .i64) (.pr (.i .i64) (.pr (.i .i64) (.pr (.i .i64) (.pr (.i .i64) (.sl (.i .i64))))))))), .d (.i .i64)]
abbrev D32 : Type := pairD (.ag (.pr (.ty (.i .i64)) (.pr (.ty (.i .i64)) (.pr (.ty (.i .i64)) (.pr (.ty (.i .i64)) (.pr (.ty (.i .i64)) (.pr (.ty (.i .i64)) (.ow 1 (.i .i64))))))))) (osOf ps32)
noncomputable def lv32 : Nat → Option (LI D32) := fun _ => none
noncomputable def g32 (a0_0 : Int) (a0_1 : Int) (a0_2 : Int) (a0_3 : Int) (a0_4 : Int) (a0_5 : Int) (a0_6 : List Int) (a1 : Int) : Option (Int × Int × Int × Int × Int × Int × List Int) :=
  cond (decide (a1 ≤ a0_2))
    (Option.bind (g39 a0_0 a0_1 a0_2 a0_3 a0_4 a0_5 a0_6) fun v1 =>
    some (v1))
    (cond (decide (a1 > 1099511627776))
      (Option.bind (g39 a0_0 a0_1 a0_2 a0_3 a0_4 a0_5 a0_6) fun v2 =>
      some (v2))
      (some ((a0_0, a0_1, a1, 0, -1, -1, []))))
noncomputable def i32 : FI := ⟨ps32, .ag (.pr (.ty (.i .i64)) (.pr (.ty (.i .i64)) (.pr (.ty (.i .i64)) (.pr (.ty (.i .i64)) (.pr (.ty (.i .i64)) (.pr (.ty (.i .i64)) (.ow 1 (.i .i64)))))))), fun ((a0_0, a0_1, a0_2, a0_3, a0_4, a0_5, a0_6), a1) => g32 a0_0 a0_1 a0_2 a0_3 a0_4 a0_5 a0_6 a1⟩
theorem e32 : (fun a => i32.G a) = fnEval T Y env32 an i32.ps i32.rs false Try.f32.results.toList lv32 c32 := by kernel_rfl
theorem lo32 : loopsOf c32 = [] := by kernel_rfl
theorem ll32 : LoopsOk T Y env32 an lv32 (finO T false ps32 (.ag (.pr (.ty (.i .i64)) (.pr (.ty (.i .i64)) (.pr (.ty (.i .i64)) (.pr (.ty (.i .i64)) (.pr (.ty (.i .i64)) (.pr (.ty (.i .i64)) (.ow 1 (.i .i64))))))))) Try.f32.results.toList) c32 := loopsOk_of (by rw [lo32]; exact trivial)
theorem k32 : FnOk Try.prog 32 i32 :=
  fn_ok (T := T) (Y := Y) (an := an) (env := env32) (fr := false) (lenv := lv32) mixed tok.1 tok.2 (envCons k39 (envNil)) (fn := Try.f32) (c := c32) (by kernel_rfl) (by kernel_rfl) (by kernel_rfl) ll32 (fun a => congrFun e32 a)
/-! ### broker/brokerref40.Answer -/
noncomputable def c33 : Code := Try.f33.body.getD .skip
noncomputable def env33 : Env := mkEnv [(41, i41), (39, i39), (32, i32)]
abbrev ps33 : List PSh := [.d (.st (.pr (.i .i64) (.pr (.i .i64) (.pr (.i .i64) (.pr (.i .i64) (.pr (.i .i64) (.pr (.i .i64) (.sl (.i .i64))))))))), .d (.st (.pr (.i .i64) (.pr (.i .i64) (.pr (.i .i64) (.pr (.i .i64) (.pr (.i .i64) (.pr (.i .i64) (.pr (.i .i64) (.pr .b (.sl (.st (.pr (.i .i64) .s)))))))))))), .d (.i .i64), .d (.i .i64)]
abbrev D33 : Type := pairD (.tup (.pr (.ty (.st (.pr (.i .i64) (.pr (.i .i64) (.pr (.i .i64) (.pr (.i .i64) (.pr (.i .i64) (.pr (.i .i64) (.sl (.i .i64)))))))))) (.ty (.st (.pr (.i .i64) (.pr (.i .i64) (.pr (.i .i64) (.pr (.i .i64) (.pr (.i .i64) (.pr (.i .i64) (.pr (.i .i64) (.pr .b (.sl (.st (.pr (.i .i64) .s))))))))))))))) (osOf ps33)
noncomputable def lv33 : Nat → Option (LI D33) := fun _ => none
noncomputable def g33 (a0_0 : Int) (a0_1 : Int) (a0_2 : Int) (a0_3 : Int) (a0_4 : Int) (a0_5 : Int) (a0_6 : List Int) (a1_0 : Int) (a1_1 : Int) (a1_2 : Int) (a1_3 : Int) (a1_4 : Int) (a1_5 : Int) (a1_6 : Int) (a1_7 : Bool) (a1_8 : List (Int × List UInt8)) (a2 : Int) (a3 : Int) : Option ((Int × Int × Int × Int × Int × Int × List Int) × Int × Int × Int × Int × Int × Int × Int × Bool × List (Int × List UInt8)) :=
  cond (a1_0 != 1)
    (Option.bind (g39 a0_0 a0_1 a0_2 a0_3 a0_4 a0_5 a0_6) fun v1 =>
    some ((v1, 0, 0, 0, 0, 0, 0, 0, false, [])))
    (Option.bind (g41 a0_0 a0_1 a0_2 a0_3 a0_4 a0_5 a0_6 a1_0 a1_1 a1_2 a1_3 a1_4 a1_5 a1_6 a1_7 a1_8) fun v2 =>
    cond (!v2)
      (Option.bind (g39 a0_0 a0_1 a0_2 a0_3 a0_4 a0_5 a0_6) fun v3 =>
      some ((v3, 0, 0, 0, 0, 0, 0, 0, false, [])))
      (Option.bind (g32 a0_0 a0_1 a0_2 a0_3 a0_4 a0_5 a0_6 a1_3) fun v4 =>
      cond (decide (a1_5 > a3))
        (cond (a1_3 == v4.2.2.1)
          (cond (v4.2.2.2.2.1 == -1)
            (some (((v4.1, v4.2.1, v4.2.2.1, v4.2.2.2.1, a1_1, v4.2.2.2.2.2), 2, a0_0, a1_1, v4.2.2.1, 0, 0, 0, true, [])))
            (cond (v4.2.2.2.2.1 == a1_1)
              (some (((v4.1, v4.2.1, v4.2.2.1, v4.2.2.2.1, a1_1, v4.2.2.2.2.2), 2, a0_0, a1_1, v4.2.2.1, 0, 0, 0, true, [])))
              (some ((v4, 2, a0_0, a1_1, v4.2.2.1, 0, 0, 0, false, [])))))
          (some ((v4, 2, a0_0, a1_1, v4.2.2.1, 0, 0, 0, false, []))))
        (cond (a1_5 == a3)
          (cond (a1_3 == v4.2.2.1)
            (cond (v4.2.2.2.2.1 == -1)
              (cond (decide (a1_4 ≥ a2))
                (some (((v4.1, v4.2.1, v4.2.2.1, v4.2.2.2.1, a1_1, v4.2.2.2.2.2), 2, a0_0, a1_1, v4.2.2.1, 0, 0, 0, decide (a1_4 ≥ a2), [])))
                (some ((v4, 2, a0_0, a1_1, v4.2.2.1, 0, 0, 0, decide (a1_4 ≥ a2), []))))
              (cond (v4.2.2.2.2.1 == a1_1)
                (cond (decide (a1_4 ≥ a2))
                  (some (((v4.1, v4.2.1, v4.2.2.1, v4.2.2.2.1, a1_1, v4.2.2.2.2.2), 2, a0_0, a1_1, v4.2.2.1, 0, 0, 0, decide (a1_4 ≥ a2), [])))
                  (some ((v4, 2, a0_0, a1_1, v4.2.2.1, 0, 0, 0, decide (a1_4 ≥ a2), []))))
                (some ((v4, 2, a0_0, a1_1, v4.2.2.1, 0, 0, 0, false, [])))))
            (some ((v4, 2, a0_0, a1_1, v4.2.2.1, 0, 0, 0, false, []))))
          (cond (a1_3 == v4.2.2.1)
            (cond (v4.2.2.2.2.1 == -1)
              (some ((v4, 2, a0_0, a1_1, v4.2.2.1, 0, 0, 0, false, [])))
              (cond (v4.2.2.2.2.1 == a1_1)
                (some ((v4, 2, a0_0, a1_1, v4.2.2.1, 0, 0, 0, false, [])))
                (some ((v4, 2, a0_0, a1_1, v4.2.2.1, 0, 0, 0, false, [])))))
            (some ((v4, 2, a0_0, a1_1, v4.2.2.1, 0, 0, 0, false, [])))))))
noncomputable def i33 : FI := ⟨ps33, .tup (.pr (.ty (.st (.pr (.i .i64) (.pr (.i .i64) (.pr (.i .i64) (.pr (.i .i64) (.pr (.i .i64) (.pr (.i .i64) (.sl (.i .i64)))))))))) (.ty (.st (.pr (.i .i64) (.pr (.i .i64) (.pr (.i .i64) (.pr (.i .i64) (.pr (.i .i64) (.pr (.i .i64) (.pr (.i .i64) (.pr .b (.sl (.st (.pr (.i .i64) .s)))))))))))))), fun ((a0_0, a0_1, a0_2, a0_3, a0_4, a0_5, a0_6), (a1_0, a1_1, a1_2, a1_3, a1_4, a1_5, a1_6, a1_7, a1_8), a2, a3) => g33 a0_0 a0_1 a0_2 a0_3 a0_4 a0_5 a0_6 a1_0 a1_1 a1_2 a1_3 a1_4 a1_5 a1_6 a1_7 a1_8 a2 a3⟩
theorem e33 : (fun a => i33.G a) = fnEval T Y env33 an i33.ps i33.rs true Try.f33.results.toList lv33 c33 := by kernel_rfl
theorem lo33 : loopsOf c33 = [] := by kernel_rfl
theorem ll33 : LoopsOk T Y env33 an lv33 (finO T true ps33 (.tup (.pr (.ty (.st (.pr (.i .i64) (.pr (.i .i64) (.pr (.i .i64) (.pr (.i .i64) (.pr (.i .i64) (.pr (.i .i64) (.sl (.i .i64)))))))))) (.ty (.st (.pr (.i .i64) (.pr (.i .i64) (.pr (.i .i64) (.pr (.i .i64) (.pr (.i .i64) (.pr (.i .i64) (.pr (.i .i64) (.pr .b (.sl (.st (.pr (.i .i64) .s))))))))))))))) Try.f33.results.toList) c33 := loopsOk_of (by rw [lo33]; exact trivial)
theorem k33 : FnOk Try.prog 33 i33 :=
  fn_ok (T := T) (Y := Y) (an := an) (env := env33) (fr := true) (lenv := lv33) mixed tok.1 tok.2 (envCons k41 (envCons k39 (envCons k32 (envNil)))) (fn := Try.f33) (c := c33) (by kernel_rfl) (by kernel_rfl) (by kernel_rfl) ll33 (fun a => congrFun e33 a)
/-! ### broker/brokerref40.Count -/
noncomputable def c35 : Code := Try.f35.body.getD .skip
noncomputable def env35 : Env := mkEnv [(41, i41), (39, i39), (32, i32), (43, i43), (37, i37), (40, i40)]
abbrev ps35 : List PSh := [.d (.st (.pr (.i .i64) (.pr (.i .i64) (.pr (.i .i64) (.pr (.i .i64) (.pr (.i .i64) (.pr (.i .i64) (.sl (.i .i64))))))))), .d (.st (.pr (.i .i64) (.pr (.i .i64) (.pr (.i .i64) (.pr (.i .i64) (.pr (.i .i64) (.pr (.i .i64) (.pr (.i .i64) (.pr .b (.sl (.st (.pr (.i .i64) .s))))))))))))]
abbrev D35 : Type := pairD (.ty (.st (.pr (.i .i64) (.pr (.i .i64) (.pr (.i .i64) (.pr (.i .i64) (.pr (.i .i64) (.pr (.i .i64) (.sl (.i .i64)))))))))) (osOf ps35)
noncomputable def lv35 : Nat → Option (LI D35) := fun _ => none
noncomputable def g35 (a0_0 : Int) (a0_1 : Int) (a0_2 : Int) (a0_3 : Int) (a0_4 : Int) (a0_5 : Int) (a0_6 : List Int) (a1_0 : Int) (a1_1 : Int) (a1_2 : Int) (a1_3 : Int) (a1_4 : Int) (a1_5 : Int) (a1_6 : Int) (a1_7 : Bool) (a1_8 : List (Int × List UInt8)) : Option (Int × Int × Int × Int × Int × Int × List Int) :=
  cond (a1_0 != 2)
    (Option.bind (g39 a0_0 a0_1 a0_2 a0_3 a0_4 a0_5 a0_6) fun v1 =>
    some (v1))
    (Option.bind (g41 a0_0 a0_1 a0_2 a0_3 a0_4 a0_5 a0_6 a1_0 a1_1 a1_2 a1_3 a1_4 a1_5 a1_6 a1_7 a1_8) fun v2 =>
    cond (!v2)
      (Option.bind (g39 a0_0 a0_1 a0_2 a0_3 a0_4 a0_5 a0_6) fun v3 =>
      some (v3))
      (Option.bind (g32 a0_0 a0_1 a0_2 a0_3 a0_4 a0_5 a0_6 a1_3) fun v4 =>
      cond (a1_3 != a0_2)
        (some (v4))
        (cond (a0_3 != 1)
          (some (v4))
          (cond (!a1_7)
            (some (v4))
            (cond (decide (List.length v4.2.2.2.2.2.2 + 1 ≤ 2147483647))
              (Option.bind (g43 (v4.2.2.2.2.2.2 ++ [a1_1])) fun v5 =>
              Option.bind (g37 (↑(List.length v5) : Int) a0_1) fun v6 =>
              cond (v6)
                (Option.bind (g40 v4.1 v4.2.1 v4.2.2.1 v4.2.2.2.1 v4.2.2.2.2.1 v4.2.2.2.2.2.1 v5) fun v7 =>
                some (v7))
                (some ((v4.1, v4.2.1, v4.2.2.1, v4.2.2.2.1, v4.2.2.2.2.1, v4.2.2.2.2.2.1, v5))))
              (none))))))
noncomputable def i35 : FI := ⟨ps35, .ty (.st (.pr (.i .i64) (.pr (.i .i64) (.pr (.i .i64) (.pr (.i .i64) (.pr (.i .i64) (.pr (.i .i64) (.sl (.i .i64))))))))), fun ((a0_0, a0_1, a0_2, a0_3, a0_4, a0_5, a0_6), (a1_0, a1_1, a1_2, a1_3, a1_4, a1_5, a1_6, a1_7, a1_8)) => g35 a0_0 a0_1 a0_2 a0_3 a0_4 a0_5 a0_6 a1_0 a1_1 a1_2 a1_3 a1_4 a1_5 a1_6 a1_7 a1_8⟩
theorem e35 : (fun a => i35.G a) = fnEval T Y env35 an i35.ps i35.rs true Try.f35.results.toList lv35 c35 := by kernel_rfl
theorem lo35 : loopsOf c35 = [] := by kernel_rfl
theorem ll35 : LoopsOk T Y env35 an lv35 (finO T true ps35 (.ty (.st (.pr (.i .i64) (.pr (.i .i64) (.pr (.i .i64) (.pr (.i .i64) (.pr (.i .i64) (.pr (.i .i64) (.sl (.i .i64)))))))))) Try.f35.results.toList) c35 := loopsOk_of (by rw [lo35]; exact trivial)
theorem k35 : FnOk Try.prog 35 i35 :=
  fn_ok (T := T) (Y := Y) (an := an) (env := env35) (fr := true) (lenv := lv35) mixed tok.1 tok.2 (envCons k41 (envCons k39 (envCons k32 (envCons k43 (envCons k37 (envCons k40 (envNil))))))) (fn := Try.f35) (c := c35) (by kernel_rfl) (by kernel_rfl) (by kernel_rfl) ll35 (fun a => congrFun e35 a)
/-! ### broker/brokerlaw40.step -/
noncomputable def c19 : Code := Try.f19.body.getD .skip
noncomputable def env19 : Env := mkEnv [(13, i13), (30, i30), (10, i10), (31, i31), (32, i32), (15, i15), (14, i14), (33, i33), (34, i34), (35, i35), (16, i16)]
abbrev ps19 : List PSh := [.d (.st (.pr (.i .i64) (.pr (.i .i64) (.pr (.i .i64) (.pr (.i .i64) (.pr (.i .i64) (.pr (.i .i64) (.sl (.i .i64))))))))), .d (.st (.pr (.i .i64) (.pr (.i .i64) (.pr (.i .i64) (.pr (.i .i64) (.st (.pr (.i .i64) (.pr (.i .i64) (.pr (.i .i64) (.pr (.i .i64) (.pr (.i .i64) (.pr (.i .i64) (.pr (.i .i64) (.pr .b (.sl (.st (.pr (.i .i64) .s)))))))))))))))))]
abbrev D19 : Type := pairD (.tup (.pr (.ty (.st (.pr (.i .i64) (.pr (.i .i64) (.pr (.i .i64) (.pr (.i .i64) (.pr (.i .i64) (.pr (.i .i64) (.sl (.i .i64)))))))))) (.pr (.ty (.sl (.st (.pr (.i .i64) (.pr (.i .i64) (.pr (.i .i64) (.pr (.i .i64) (.pr (.i .i64) (.pr (.i .i64) (.pr (.i .i64) (.pr .b (.sl (.st (.pr (.i .i64) .s)))))))))))))) (.ty .b)))) (osOf ps19)
noncomputable def lv19 : Nat → Option (LI D19) := fun _ => none
noncomputable def g19 (a0_0 : Int) (a0_1 : Int) (a0_2 : Int) (a0_3 : Int) (a0_4 : Int) (a0_5 : Int) (a0_6 : List Int) (a1_0 : Int) (a1_1 : Int) (a1_2 : Int) (a1_3 : Int) (a1_4_0 : Int) (a1_4_1 : Int) (a1_4_2 : Int) (a1_4_3 : Int) (a1_4_4 : Int) (a1_4_5 : Int) (a1_4_6 : Int) (a1_4_7 : Bool) (a1_4_8 : List (Int × List UInt8)) : Option ((Int × Int × Int × Int × Int × Int × List Int) × (List (Int × Int × Int × Int × Int × Int × Int × Bool × List (Int × List UInt8))) × Bool) :=
  cond (a1_0 == 0)
    (Option.bind (g13 a0_0 a0_1 a0_2 a0_3 a0_4 a0_5 a0_6 a1_1 a1_2) fun v1 =>
    Option.bind (g30 a0_0 a0_1 a0_2 a0_3 a0_4 a0_5 a0_6 a1_1 a1_2) fun v2 =>
    Option.bind (g10 v1.1.1 v1.1.2.1 v1.1.2.2.1 v1.1.2.2.2.1 v1.1.2.2.2.2.1 v1.1.2.2.2.2.2.1 v1.1.2.2.2.2.2.2 v2.1.1 v2.1.2.1 v2.1.2.2.1 v2.1.2.2.2.1 v2.1.2.2.2.2.1 v2.1.2.2.2.2.2.1 v2.1.2.2.2.2.2.2) fun v3 =>
    cond (v3)
      (Option.bind (g31 v1.2 v2.2) fun v4 =>
      some ((v2.1, v2.2, v4)))
      (some ((v2.1, v2.2, false))))
    (cond (a1_0 == 1)
      (Option.bind (g32 a0_0 a0_1 a0_2 a0_3 a0_4 a0_5 a0_6 a1_3) fun v5 =>
      Option.bind (g15 a0_0 a0_1 a0_2 a0_3 a0_4 a0_5 a0_6 a1_3) fun v6 =>
      Option.bind (g10 v6.1 v6.2.1 v6.2.2.1 v6.2.2.2.1 v6.2.2.2.2.1 v6.2.2.2.2.2.1 v6.2.2.2.2.2.2 v5.1 v5.2.1 v5.2.2.1 v5.2.2.2.1 v5.2.2.2.2.1 v5.2.2.2.2.2.1 v5.2.2.2.2.2.2) fun v7 =>
      some ((v5, [], v7)))
      (cond (a1_0 == 2)
        (Option.bind (g14 a0_0 a0_1 a0_2 a0_3 a0_4 a0_5 a0_6 a1_4_0 a1_4_1 a1_4_2 a1_4_3 a1_4_4 a1_4_5 a1_4_6 a1_4_7 a1_4_8 a1_1 a1_2) fun v8 =>
        Option.bind (g33 a0_0 a0_1 a0_2 a0_3 a0_4 a0_5 a0_6 a1_4_0 a1_4_1 a1_4_2 a1_4_3 a1_4_4 a1_4_5 a1_4_6 a1_4_7 a1_4_8 a1_1 a1_2) fun v9 =>
        Option.bind (g10 v8.1.1 v8.1.2.1 v8.1.2.2.1 v8.1.2.2.2.1 v8.1.2.2.2.2.1 v8.1.2.2.2.2.2.1 v8.1.2.2.2.2.2.2 v9.1.1 v9.1.2.1 v9.1.2.2.1 v9.1.2.2.2.1 v9.1.2.2.2.2.1 v9.1.2.2.2.2.2.1 v9.1.2.2.2.2.2.2) fun v10 =>
        cond (v10)
          (Option.bind (g34 v8.2.1 v8.2.2.1 v8.2.2.2.1 v8.2.2.2.2.1 v8.2.2.2.2.2.1 v8.2.2.2.2.2.2.1 v8.2.2.2.2.2.2.2.1 v8.2.2.2.2.2.2.2.2.1 v8.2.2.2.2.2.2.2.2.2 v9.2.1 v9.2.2.1 v9.2.2.2.1 v9.2.2.2.2.1 v9.2.2.2.2.2.1 v9.2.2.2.2.2.2.1 v9.2.2.2.2.2.2.2.1 v9.2.2.2.2.2.2.2.2.1 v9.2.2.2.2.2.2.2.2.2) fun v11 =>
          some ((v9.1, [v9.2], v11)))
          (some ((v9.1, [v9.2], false))))
        (Option.bind (g35 a0_0 a0_1 a0_2 a0_3 a0_4 a0_5 a0_6 a1_4_0 a1_4_1 a1_4_2 a1_4_3 a1_4_4 a1_4_5 a1_4_6 a1_4_7 a1_4_8) fun v12 =>
        Option.bind (g16 a0_0 a0_1 a0_2 a0_3 a0_4 a0_5 a0_6 a1_4_0 a1_4_1 a1_4_2 a1_4_3 a1_4_4 a1_4_5 a1_4_6 a1_4_7 a1_4_8) fun v13 =>
        Option.bind (g10 v13.1 v13.2.1 v13.2.2.1 v13.2.2.2.1 v13.2.2.2.2.1 v13.2.2.2.2.2.1 v13.2.2.2.2.2.2 v12.1 v12.2.1 v12.2.2.1 v12.2.2.2.1 v12.2.2.2.2.1 v12.2.2.2.2.2.1 v12.2.2.2.2.2.2) fun v14 =>
        some ((v12, [], v14)))))
noncomputable def i19 : FI := ⟨ps19, .tup (.pr (.ty (.st (.pr (.i .i64) (.pr (.i .i64) (.pr (.i .i64) (.pr (.i .i64) (.pr (.i .i64) (.pr (.i .i64) (.sl (.i .i64)))))))))) (.pr (.ty (.sl (.st (.pr (.i .i64) (.pr (.i .i64) (.pr (.i .i64) (.pr (.i .i64) (.pr (.i .i64) (.pr (.i .i64) (.pr (.i .i64) (.pr .b (.sl (.st (.pr (.i .i64) .s)))))))))))))) (.ty .b))), fun ((a0_0, a0_1, a0_2, a0_3, a0_4, a0_5, a0_6), (a1_0, a1_1, a1_2, a1_3, (a1_4_0, a1_4_1, a1_4_2, a1_4_3, a1_4_4, a1_4_5, a1_4_6, a1_4_7, a1_4_8))) => g19 a0_0 a0_1 a0_2 a0_3 a0_4 a0_5 a0_6 a1_0 a1_1 a1_2 a1_3 a1_4_0 a1_4_1 a1_4_2 a1_4_3 a1_4_4 a1_4_5 a1_4_6 a1_4_7 a1_4_8⟩
theorem e19 : (fun a => i19.G a) = fnEval T Y env19 an i19.ps i19.rs true Try.f19.results.toList lv19 c19 := by kernel_rfl
theorem lo19 : loopsOf c19 = [] := by kernel_rfl
theorem ll19 : LoopsOk T Y env19 an lv19 (finO T true ps19 (.tup (.pr (.ty (.st (.pr (.i .i64) (.pr (.i .i64) (.pr (.i .i64) (.pr (.i .i64) (.pr (.i .i64) (.pr (.i .i64) (.sl (.i .i64)))))))))) (.pr (.ty (.sl (.st (.pr (.i .i64) (.pr (.i .i64) (.pr (.i .i64) (.pr (.i .i64) (.pr (.i .i64) (.pr (.i .i64) (.pr (.i .i64) (.pr .b (.sl (.st (.pr (.i .i64) .s)))))))))))))) (.ty .b)))) Try.f19.results.toList) c19 := loopsOk_of (by rw [lo19]; exact trivial)
theorem k19 : FnOk Try.prog 19 i19 :=
  fn_ok (T := T) (Y := Y) (an := an) (env := env19) (fr := true) (lenv := lv19) mixed tok.1 tok.2 (envCons k13 (envCons k30 (envCons k10 (envCons k31 (envCons k32 (envCons k15 (envCons k14 (envCons k33 (envCons k34 (envCons k35 (envCons k16 (envNil)))))))))))) (fn := Try.f19) (c := c19) (by kernel_rfl) (by kernel_rfl) (by kernel_rfl) ll19 (fun a => congrFun e19 a)
/-! ### broker/brokerlaw40.VotePlays -/
noncomputable def c6 : Code := Try.f6.body.getD .skip
noncomputable def env6 : Env := mkEnv [(12, i12), (7, i7), (19, i19)]
abbrev ps6 : List PSh := [.d (.st (.pr (.i .i64) (.pr (.i .i64) (.pr (.i .i64) (.pr (.i .i64) (.pr (.i .i64) (.pr (.i .i64) (.sl (.i .i64))))))))), .d (.sl (.st (.pr (.i .i64) (.pr (.i .i64) (.pr (.i .i64) (.pr (.i .i64) (.st (.pr (.i .i64) (.pr (.i .i64) (.pr (.i .i64) (.pr (.i .i64) (.pr (.i .i64) (.pr (.i .i64) (.pr (.i .i64) (.pr .b (.sl (.st (.pr (.i .i64) .s))))))))))))))))))]
abbrev D6 : Type := pairD (.ty .b) (osOf ps6)
def ns6_0 : NS := { slots := [(2, .pt 2 []), (19, .ty (.sl (.st (.pr (.i .i64) (.pr (.i .i64) (.pr (.i .i64) (.pr (.i .i64) (.st (.pr (.i .i64) (.pr (.i .i64) (.pr (.i .i64) (.pr (.i .i64) (.pr (.i .i64) (.pr (.i .i64) (.pr (.i .i64) (.pr .b (.sl (.st (.pr (.i .i64) .s))))))))))))))))))), (20, .ty (.i .i64)), (21, .ty (.i .i64))], roots := [(2, .ty (.st (.pr (.i .i64) (.pr (.i .i64) (.pr (.i .i64) (.pr (.i .i64) (.pr (.i .i64) (.pr (.i .i64) (.sl (.i .i64))))))))))] }
def ex6_0 : List (Nat × NS) := [(0, { slots := [], roots := [] })]
noncomputable def st6_0 (ih : (((List (Int × Int × Int × Int × Int × Int × Int × Int × Int × Int × Int × Bool × List (Int × List UInt8))) × Int × Int) × (Int × Int × Int × Int × Int × Int × List Int)) → Option (((Unit) × (Unit)) ⊕ Bool)) : (((List (Int × Int × Int × Int × Int × Int × Int × Int × Int × Int × Int × Bool × List (Int × List UInt8))) × Int × Int) × (Int × Int × Int × Int × Int × Int × List Int)) → Option (((Unit) × (Unit)) ⊕ Bool) := fun ((t19, t20, t21), (r2_0, r2_1, r2_2, r2_3, r2_4, r2_5, r2_6)) =>
  cond (decide (t21 < t20))
    (cond (decide (0 ≤ t21) && decide (t21 < (↑t19.length : Int)))
      (cond (decide ((↑(List.length (t19.getD t21.toNat (0, 0, 0, 0, 0, 0, 0, 0, 0, 0, 0, false, [])).2.2.2.2.2.2.2.2.2.2.2.2) : Int) > 10))
        (Option.bind (g7) fun v1 =>
        some (Sum.inr v1))
        (Option.bind (g19 r2_0 r2_1 r2_2 r2_3 r2_4 r2_5 r2_6 (t19.getD t21.toNat (0, 0, 0, 0, 0, 0, 0, 0, 0, 0, 0, false, [])).1 (t19.getD t21.toNat (0, 0, 0, 0, 0, 0, 0, 0, 0, 0, 0, false, [])).2.1 (t19.getD t21.toNat (0, 0, 0, 0, 0, 0, 0, 0, 0, 0, 0, false, [])).2.2.1 (t19.getD t21.toNat (0, 0, 0, 0, 0, 0, 0, 0, 0, 0, 0, false, [])).2.2.2.1 (t19.getD t21.toNat (0, 0, 0, 0, 0, 0, 0, 0, 0, 0, 0, false, [])).2.2.2.2.1 (t19.getD t21.toNat (0, 0, 0, 0, 0, 0, 0, 0, 0, 0, 0, false, [])).2.2.2.2.2.1 (t19.getD t21.toNat (0, 0, 0, 0, 0, 0, 0, 0, 0, 0, 0, false, [])).2.2.2.2.2.2.1 (t19.getD t21.toNat (0, 0, 0, 0, 0, 0, 0, 0, 0, 0, 0, false, [])).2.2.2.2.2.2.2.1 (t19.getD t21.toNat (0, 0, 0, 0, 0, 0, 0, 0, 0, 0, 0, false, [])).2.2.2.2.2.2.2.2.1 (t19.getD t21.toNat (0, 0, 0, 0, 0, 0, 0, 0, 0, 0, 0, false, [])).2.2.2.2.2.2.2.2.2.1 (t19.getD t21.toNat (0, 0, 0, 0, 0, 0, 0, 0, 0, 0, 0, false, [])).2.2.2.2.2.2.2.2.2.2.1 (t19.getD t21.toNat (0, 0, 0, 0, 0, 0, 0, 0, 0, 0, 0, false, [])).2.2.2.2.2.2.2.2.2.2.2.1 (t19.getD t21.toNat (0, 0, 0, 0, 0, 0, 0, 0, 0, 0, 0, false, [])).2.2.2.2.2.2.2.2.2.2.2.2) fun v2 =>
        cond (!v2.2.2)
          (some (Sum.inr false))
          (ih ((t19, t20, IntKind.i64.wrap (t21 + 1)), v2.1))))
      (none))
    (some (Sum.inl ((), ())))
noncomputable def h6_0 : (((List (Int × Int × Int × Int × Int × Int × Int × Int × Int × Int × Int × Bool × List (Int × List UInt8))) × Int × Int) × (Int × Int × Int × Int × Int × Int × List Int)) → Option (((Unit) × (Unit)) ⊕ Bool) := loopN st6_0 fuel
noncomputable def l6_0 : LI D6 := ⟨ns6_0, ex6_0, h6_0⟩
noncomputable def lv6 : Nat → Option (LI D6) := fun q => if q = 4 then some l6_0 else (fun _ => none) q
noncomputable def g6 (a0_0 : Int) (a0_1 : Int) (a0_2 : Int) (a0_3 : Int) (a0_4 : Int) (a0_5 : Int) (a0_6 : List Int) (a1 : List (Int × Int × Int × Int × Int × Int × Int × Int × Int × Int × Int × Bool × List (Int × List UInt8))) : Option (Bool) :=
  Option.bind (g12 a0_0 a0_1 a0_2 a0_3 a0_4 a0_5 a0_6) fun v1 =>
  cond (v1 != 0)
    (Option.bind (g7) fun v2 =>
    some (v2))
    (cond (decide ((↑a1.length : Int) > 60))
      (Option.bind (g7) fun v3 =>
      some (v3))
      (Option.bind (h6_0 ((a1, (↑a1.length : Int), 0), a0_0, a0_1, a0_2, a0_3, a0_4, a0_5, a0_6)) fun v4 =>
      match v4 with
      | .inl x5 =>
        Option.bind (g7) fun v6 =>
        some (v6)
      | .inr x5 =>
        some (x5)))
noncomputable def i6 : FI := ⟨ps6, .ty .b, fun ((a0_0, a0_1, a0_2, a0_3, a0_4, a0_5, a0_6), a1) => g6 a0_0 a0_1 a0_2 a0_3 a0_4 a0_5 a0_6 a1⟩
theorem s6_0 : st6_0 = stepEval T Y env6 an lv6 (finO T true ps6 (.ty .b) Try.f6.results.toList) (loopAt c6 0) ns6_0 ex6_0 := by kernel_rfl
theorem e6 : (fun a => i6.G a) = fnEval T Y env6 an i6.ps i6.rs true Try.f6.results.toList lv6 c6 := by kernel_rfl
theorem lo6 : loopsOf c6 = [loopAt c6 0] := by kernel_rfl
theorem ll6 : LoopsOk T Y env6 an lv6 (finO T true ps6 (.ty .b) Try.f6.results.toList) c6 := loopsOk_of (by rw [lo6]; exact ⟨loop1 (li := l6_0) (by kernel_rfl) (by kernel_rfl) s6_0, trivial⟩)
theorem k6 : FnOk Try.prog 6 i6 :=
  fn_ok (T := T) (Y := Y) (an := an) (env := env6) (fr := true) (lenv := lv6) mixed tok.1 tok.2 (envCons k12 (envCons k7 (envCons k19 (envNil)))) (fn := Try.f6) (c := c6) (by kernel_rfl) (by kernel_rfl) (by kernel_rfl) ll6 (fun a => congrFun e6 a)
end Go.Proofs.Ytehjeifbgegabaa.EVT
