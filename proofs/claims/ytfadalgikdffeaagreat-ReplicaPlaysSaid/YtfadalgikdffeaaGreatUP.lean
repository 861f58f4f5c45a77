/- What functions compute, as printed (U, part P). -/
import Derived.Test.YtfadalgikdffeaaGreatUE
set_option linter.unusedVariables false
set_option maxRecDepth 100000
set_option maxHeartbeats 0
namespace Go.Proofs.YtfadalgikdffeaaGreat.EVT
open Go Go.EV
def tabP0 : List UInt8 := (0 :: List.append (List.append [1, 2, 2, 3, 3, 3, 3, 4, 4, 4, 4, 4, 4, 4, 4, 5, 5, 5, 5, 5, 5, 5, 5, 5, 5, 5, 5, 5, 5, 5, 5, 6, 6, 6, 6, 6, 6, 6, 6, 6, 6, 6, 6, 6, 6, 6, 6, 6, 6, 6, 6, 6, 6, 6, 6, 6, 6, 6, 6, 6, 6, 6, 6] [7, 7, 7, 7, 7, 7, 7, 7, 7, 7, 7, 7, 7, 7, 7, 7, 7, 7, 7, 7, 7, 7, 7, 7, 7, 7, 7, 7, 7, 7, 7, 7, 7, 7, 7, 7, 7, 7, 7, 7, 7, 7, 7, 7, 7, 7, 7, 7, 7, 7, 7, 7, 7, 7, 7, 7, 7, 7, 7, 7, 7, 7, 7, 7]) ([8, 8, 8, 8, 8, 8, 8, 8, 8, 8, 8, 8, 8, 8, 8, 8, 8, 8, 8, 8, 8, 8, 8, 8, 8, 8, 8, 8, 8, 8, 8, 8, 8, 8, 8, 8, 8, 8, 8, 8, 8, 8, 8, 8, 8, 8, 8, 8, 8, 8, 8, 8, 8, 8, 8, 8, 8, 8, 8, 8, 8, 8, 8, 8].append [8, 8, 8, 8, 8, 8, 8, 8, 8, 8, 8, 8, 8, 8, 8, 8, 8, 8, 8, 8, 8, 8, 8, 8, 8, 8, 8, 8, 8, 8, 8, 8, 8, 8, 8, 8, 8, 8, 8, 8, 8, 8, 8, 8, 8, 8, 8, 8, 8, 8, 8, 8, 8, 8, 8, 8, 8, 8, 8, 8, 8, 8, 8, 8]))
/-! ### cmp.isNaN[int] -/
noncomputable def c102 : Code := Tryz.f102.body.getD .skip
noncomputable def env102 : Env := mkEnv []
abbrev ps102 : List PSh := [.d (.i .i64)]
abbrev D102 : Type := pairD (.ty .b) (osOf ps102)
noncomputable def lv102 : Nat → Option (LI D102) := fun _ => none
noncomputable def g102 (a0 : Int) : Option (Bool) :=
  some (a0 != a0)
noncomputable def i102 : FI := ⟨ps102, .ty .b, fun a0 => g102 a0⟩
theorem e102 : (fun a => i102.G a) = fnEval T Y env102 an i102.ps i102.rs true Tryz.f102.results.toList lv102 c102 := by kernel_rfl
theorem lo102 : loopsOf c102 = [] := by kernel_rfl
theorem ll102 : LoopsOk T Y env102 an lv102 (finO T true ps102 (.ty .b) Tryz.f102.results.toList) c102 := loopsOk_of (by rw [lo102]; exact trivial)
theorem k102 : FnOk Tryz.prog 102 i102 :=
  fn_ok (T := T) (Y := Y) (an := an) (env := env102) (fr := true) (lenv := lv102) mixed tok.1 tok.2 (envNil) (fn := Tryz.f102) (c := c102) (by kernel_rfl) (by kernel_rfl) (by kernel_rfl) ll102 (fun a => congrFun e102 a)
/-! ### cmp.Less[int] -/
noncomputable def c92 : Code := Tryz.f92.body.getD .skip
noncomputable def env92 : Env := mkEnv [(102, i102)]
abbrev ps92 : List PSh := [.d (.i .i64), .d (.i .i64)]
abbrev D92 : Type := pairD (.ty .b) (osOf ps92)
noncomputable def lv92 : Nat → Option (LI D92) := fun _ => none
noncomputable def g92 (a0 : Int) (a1 : Int) : Option (Bool) :=
  Option.bind (g102 a0) fun v1 =>
  cond (v1)
    (Option.bind (g102 a1) fun v2 =>
    cond (!v2)
      (some (true))
      (some (decide (a0 < a1))))
    (some (decide (a0 < a1)))
noncomputable def i92 : FI := ⟨ps92, .ty .b, fun (a0, a1) => g92 a0 a1⟩
theorem e92 : (fun a => i92.G a) = fnEval T Y env92 an i92.ps i92.rs true Tryz.f92.results.toList lv92 c92 := by kernel_rfl
theorem lo92 : loopsOf c92 = [] := by kernel_rfl
theorem ll92 : LoopsOk T Y env92 an lv92 (finO T true ps92 (.ty .b) Tryz.f92.results.toList) c92 := loopsOk_of (by rw [lo92]; exact trivial)
theorem k92 : FnOk Tryz.prog 92 i92 :=
  fn_ok (T := T) (Y := Y) (an := an) (env := env92) (fr := true) (lenv := lv92) mixed tok.1 tok.2 (envCons k102 (envNil)) (fn := Tryz.f92) (c := c92) (by kernel_rfl) (by kernel_rfl) (by kernel_rfl) ll92 (fun a => congrFun e92 a)
/-! ### slices.insertionSortOrdered[int] -/
noncomputable def c86 : Code := Tryz.f86.body.getD .skip
noncomputable def env86 : Env := mkEnv [(92, i92)]
abbrev ps86 : List PSh := [.io (.ow 1 (.i .i64)) (.ow 1 (.i .i64)), .d (.i .i64), .d (.i .i64)]
abbrev D86 : Type := pairD (.un) (osOf ps86)
def ns86_1 : NS := { slots := [(0, .hw 1000000), (1, .ty (.i .i64)), (2, .ty (.i .i64)), (6, .ty (.i .i64)), (7, .ty (.i .i64))], roots := [(1000000, .ar 1 (.i .i64))] }
def ex86_1 : List (Nat × NS) := [(2, { slots := [(0, .hw 1000000), (1, .ty (.i .i64)), (2, .ty (.i .i64)), (6, .ty (.i .i64))], roots := [(1000000, .ar 1 (.i .i64))] })]
noncomputable def st86_1 (ih : ((Int × Int × Int × Int) × (List Int)) → Option (((Int × Int × Int) × (List Int)) ⊕ ((Unit × List Int)))) : ((Int × Int × Int × Int) × (List Int)) → Option (((Int × Int × Int) × (List Int)) ⊕ ((Unit × List Int))) := fun ((t1, t2, t6, t7), r1000000) =>
  cond (decide (t7 > t1))
    (cond (decide (0 ≤ t7) && decide (t7 < (↑r1000000.length : Int)))
      (cond (decide (t7.toNat < r1000000.length))
        (cond (decide (0 ≤ IntKind.i64.wrap (t7 - 1)) && decide (IntKind.i64.wrap (t7 - 1) < (↑r1000000.length : Int)))
          (cond (decide ((IntKind.i64.wrap (t7 - 1)).toNat < r1000000.length))
            (Option.bind (g92 (r1000000.getD t7.toNat 0) (r1000000.getD (IntKind.i64.wrap (t7 - 1)).toNat 0)) fun v1 =>
            cond (v1)
              (cond (decide (0 ≤ IntKind.i64.wrap (t7 - 1)) && decide (IntKind.i64.wrap (t7 - 1) < (↑r1000000.length : Int)))
                (cond (decide ((IntKind.i64.wrap (t7 - 1)).toNat < r1000000.length))
                  (cond (decide (0 ≤ t7) && decide (t7 < (↑r1000000.length : Int)))
                    (cond (decide (t7.toNat < r1000000.length))
                      (cond (decide (0 ≤ t7) && decide (t7 < (↑r1000000.length : Int)))
                        (cond (decide (t7.toNat < r1000000.length))
                          (cond (decide (0 ≤ IntKind.i64.wrap (t7 - 1)) && decide (IntKind.i64.wrap (t7 - 1) < (↑(r1000000.set t7.toNat (r1000000.getD (IntKind.i64.wrap (t7 - 1)).toNat 0)).length : Int)))
                            (cond (decide ((IntKind.i64.wrap (t7 - 1)).toNat < (r1000000.set t7.toNat (r1000000.getD (IntKind.i64.wrap (t7 - 1)).toNat 0)).length))
                              (ih ((t1, t2, t6, IntKind.i64.wrap (t7 - 1)), (r1000000.set t7.toNat (r1000000.getD (IntKind.i64.wrap (t7 - 1)).toNat 0)).set (IntKind.i64.wrap (t7 - 1)).toNat (r1000000.getD t7.toNat 0)))
                              (none))
                            (none))
                          (none))
                        (none))
                      (none))
                    (none))
                  (none))
                (none))
              (some (Sum.inl ((t1, t2, t6), r1000000))))
            (none))
          (none))
        (none))
      (none))
    (some (Sum.inl ((t1, t2, t6), r1000000)))
noncomputable def h86_1 : ((Int × Int × Int × Int) × (List Int)) → Option (((Int × Int × Int) × (List Int)) ⊕ ((Unit × List Int))) := loopN st86_1 fuel
noncomputable def l86_1 : LI D86 := ⟨ns86_1, ex86_1, h86_1⟩
def ns86_0 : NS := { slots := [(0, .hw 1000000), (1, .ty (.i .i64)), (2, .ty (.i .i64)), (6, .ty (.i .i64))], roots := [(1000000, .ar 1 (.i .i64))] }
def ex86_0 : List (Nat × NS) := [(0, { slots := [(0, .hw 1000000)], roots := [(1000000, .ar 1 (.i .i64))] })]
noncomputable def st86_0 (ih : ((Int × Int × Int) × (List Int)) → Option (((Unit) × (List Int)) ⊕ ((Unit × List Int)))) : ((Int × Int × Int) × (List Int)) → Option (((Unit) × (List Int)) ⊕ ((Unit × List Int))) := fun ((t1, t2, t6), r1000000) =>
  cond (decide (t6 < t2))
    (Option.bind (h86_1 ((t1, t2, t6, t6), r1000000)) fun v1 =>
    match v1 with
    | .inl x2 =>
      ih ((x2.1.1, x2.1.2.1, IntKind.i64.wrap (x2.1.2.2 + 1)), x2.2)
    | .inr x2 =>
      some (Sum.inr x2))
    (some (Sum.inl ((), r1000000)))
noncomputable def h86_0 : ((Int × Int × Int) × (List Int)) → Option (((Unit) × (List Int)) ⊕ ((Unit × List Int))) := loopN st86_0 fuel
noncomputable def l86_0 : LI D86 := ⟨ns86_0, ex86_0, h86_0⟩
noncomputable def lv86 : Nat → Option (LI D86) := fun q => if q = 1 then some l86_0 else (fun q => if q = 4 then some l86_1 else (fun _ => none) q) q
noncomputable def g86 (a0 : List Int) (a1 : Int) (a2 : Int) : Option (Unit × List Int) :=
  Option.bind (h86_0 ((a1, a2, IntKind.i64.wrap (a1 + 1)), a0)) fun v1 =>
  match v1 with
  | .inl x2 =>
    some (((), x2.2))
  | .inr x2 =>
    some (x2)
noncomputable def i86 : FI := ⟨ps86, .un, fun (a0, a1, a2) => g86 a0 a1 a2⟩
theorem s86_1 : st86_1 = stepEval T Y env86 an lv86 (finO T true ps86 (.un) Tryz.f86.results.toList) (loopAt c86 1) ns86_1 ex86_1 := by kernel_rfl
theorem s86_0 : st86_0 = stepEval T Y env86 an lv86 (finO T true ps86 (.un) Tryz.f86.results.toList) (loopAt c86 0) ns86_0 ex86_0 := by kernel_rfl
theorem e86 : (fun a => i86.G a) = fnEval T Y env86 an i86.ps i86.rs true Tryz.f86.results.toList lv86 c86 := by kernel_rfl
theorem lo86 : loopsOf c86 = [loopAt c86 0, loopAt c86 1] := by kernel_rfl
theorem ll86 : LoopsOk T Y env86 an lv86 (finO T true ps86 (.un) Tryz.f86.results.toList) c86 := loopsOk_of (by rw [lo86]; exact ⟨loop1 (li := l86_0) (by kernel_rfl) (by kernel_rfl) s86_0, ⟨loop1 (li := l86_1) (by kernel_rfl) (by kernel_rfl) s86_1, trivial⟩⟩)
theorem k86 : FnOk Tryz.prog 86 i86 :=
  fn_ok (T := T) (Y := Y) (an := an) (env := env86) (fr := true) (lenv := lv86) mixed tok.1 tok.2 (envCons k92 (envNil)) (fn := Tryz.f86) (c := c86) (by kernel_rfl) (by kernel_rfl) (by kernel_rfl) ll86 (fun a => congrFun e86 a)
/-! ### slices.pdqsortOrdered[int] -/
noncomputable def c84 : Code := Tryz.f84.body.getD .skip
noncomputable def env84 : Env := mkEnv [(86, i86), (92, i92)]
abbrev ps84 : List PSh := [.io (.ow 1 (.i .i64)) (.ow 1 (.i .i64)), .d (.i .i64), .d (.i .i64), .d (.i .i64)]
abbrev D84 : Type := pairD (.un) (osOf ps84)
def ns84_0 : NS := { slots := [(0, .hw 1000000), (1, .ty (.i .i64)), (2, .ty (.i .i64)), (3, .ty (.i .i64)), (8, .ty .b), (9, .ty .b)], roots := [(1000000, .ar 1 (.i .i64))] }
def ex84_0 : List (Nat × NS) := []
noncomputable def st84_0 (ih : ((Int × Int × Int × Bool × Bool) × (List Int)) → Option ((Unit × List Int))) : ((Int × Int × Int × Bool × Bool) × (List Int)) → Option ((Unit × List Int)) := fun ((t1, t2, t3, t8, t9), r1000000) =>
  cond (decide (IntKind.i64.wrap (t2 - t1) ≤ 12))
    (Option.bind (g86 r1000000 t1 t2) fun v1 =>
    cond (List.length v1.2 == r1000000.length && true)
      (some (((), v1.2)))
      (none))
    (cond (t3 == 0)
      (none)
      (cond (!t8)
        (none)
        (none)))
noncomputable def h84_0 : ((Int × Int × Int × Bool × Bool) × (List Int)) → Option ((Unit × List Int)) := loopN st84_0 fuel
noncomputable def l84_0 : LI D84 := ⟨ns84_0, ex84_0, h84_0⟩
noncomputable def lv84 : Nat → Option (LI D84) := fun q => if q = 2 then some l84_0 else (fun _ => none) q
noncomputable def g84 (a0 : List Int) (a1 : Int) (a2 : Int) (a3 : Int) : Option (Unit × List Int) :=
  Option.bind (h84_0 ((a1, a2, a3, true, true), a0)) fun v1 =>
  some (v1)
noncomputable def i84 : FI := ⟨ps84, .un, fun (a0, a1, a2, a3) => g84 a0 a1 a2 a3⟩
theorem s84_0 : st84_0 = stepEval T Y env84 an lv84 (finO T true ps84 (.un) Tryz.f84.results.toList) (loopAt c84 0) ns84_0 ex84_0 := by kernel_rfl
theorem e84 : (fun a => i84.G a) = fnEval T Y env84 an i84.ps i84.rs true Tryz.f84.results.toList lv84 c84 := by kernel_rfl
theorem lo84 : loopsOf c84 = [loopAt c84 0] := by kernel_rfl
theorem ll84 : LoopsOk T Y env84 an lv84 (finO T true ps84 (.un) Tryz.f84.results.toList) c84 := loopsOk_of (by rw [lo84]; exact ⟨loop1 (li := l84_0) (by kernel_rfl) (by kernel_rfl) s84_0, trivial⟩)
theorem k84 : FnOk Tryz.prog 84 i84 :=
  fn_ok (T := T) (Y := Y) (an := an) (env := env84) (fr := true) (lenv := lv84) mixed tok.1 tok.2 (envCons k86 (envCons k92 (envNil))) (fn := Tryz.f84) (c := c84) (by kernel_rfl) (by kernel_rfl) (by kernel_rfl) ll84 (fun a => congrFun e84 a)
/-! ### math/bits.Len64 -/
noncomputable def c96 : Code := Tryz.f96.body.getD .skip
noncomputable def env96 : Env := mkEnv []
abbrev ps96 : List PSh := [.d (.i .u64)]
abbrev D96 : Type := pairD (.ty (.i .i64)) (osOf ps96)
noncomputable def lv96 : Nat → Option (LI D96) := fun _ => none
noncomputable def g96 (a0 : Int) : Option (Int) :=
  cond (decide (a0 ≥ 4294967296))
    (cond (decide (a0.fdiv (2 ^ min (Int.toNat 32) IntKind.u64.bits) ≥ 65536))
      (cond (decide ((a0.fdiv (2 ^ min (Int.toNat 32) IntKind.u64.bits)).fdiv (2 ^ min (Int.toNat 16) IntKind.u64.bits) ≥ 256))
        (cond (decide (0 ≤ IntKind.u8.wrap (((a0.fdiv (2 ^ min (Int.toNat 32) IntKind.u64.bits)).fdiv (2 ^ min (Int.toNat 16) IntKind.u64.bits)).fdiv (2 ^ min (Int.toNat 8) IntKind.u64.bits))) && decide (IntKind.u8.wrap (((a0.fdiv (2 ^ min (Int.toNat 32) IntKind.u64.bits)).fdiv (2 ^ min (Int.toNat 16) IntKind.u64.bits)).fdiv (2 ^ min (Int.toNat 8) IntKind.u64.bits)) < (↑tabP0.length : Int)))
          (some (IntKind.i64.wrap (IntKind.i64.wrap (IntKind.i64.wrap (32 + 16) + 8) + IntKind.i64.wrap (↑(tabP0.getD (IntKind.u8.wrap (((a0.fdiv (2 ^ min (Int.toNat 32) IntKind.u64.bits)).fdiv (2 ^ min (Int.toNat 16) IntKind.u64.bits)).fdiv (2 ^ min (Int.toNat 8) IntKind.u64.bits))).toNat 0).toNat : Int))))
          (none))
        (cond (decide (0 ≤ IntKind.u8.wrap ((a0.fdiv (2 ^ min (Int.toNat 32) IntKind.u64.bits)).fdiv (2 ^ min (Int.toNat 16) IntKind.u64.bits))) && decide (IntKind.u8.wrap ((a0.fdiv (2 ^ min (Int.toNat 32) IntKind.u64.bits)).fdiv (2 ^ min (Int.toNat 16) IntKind.u64.bits)) < (↑tabP0.length : Int)))
          (some (IntKind.i64.wrap (IntKind.i64.wrap (32 + 16) + IntKind.i64.wrap (↑(tabP0.getD (IntKind.u8.wrap ((a0.fdiv (2 ^ min (Int.toNat 32) IntKind.u64.bits)).fdiv (2 ^ min (Int.toNat 16) IntKind.u64.bits))).toNat 0).toNat : Int))))
          (none)))
      (cond (decide (a0.fdiv (2 ^ min (Int.toNat 32) IntKind.u64.bits) ≥ 256))
        (cond (decide (0 ≤ IntKind.u8.wrap ((a0.fdiv (2 ^ min (Int.toNat 32) IntKind.u64.bits)).fdiv (2 ^ min (Int.toNat 8) IntKind.u64.bits))) && decide (IntKind.u8.wrap ((a0.fdiv (2 ^ min (Int.toNat 32) IntKind.u64.bits)).fdiv (2 ^ min (Int.toNat 8) IntKind.u64.bits)) < (↑tabP0.length : Int)))
          (some (IntKind.i64.wrap (IntKind.i64.wrap (32 + 8) + IntKind.i64.wrap (↑(tabP0.getD (IntKind.u8.wrap ((a0.fdiv (2 ^ min (Int.toNat 32) IntKind.u64.bits)).fdiv (2 ^ min (Int.toNat 8) IntKind.u64.bits))).toNat 0).toNat : Int))))
          (none))
        (cond (decide (0 ≤ IntKind.u8.wrap (a0.fdiv (2 ^ min (Int.toNat 32) IntKind.u64.bits))) && decide (IntKind.u8.wrap (a0.fdiv (2 ^ min (Int.toNat 32) IntKind.u64.bits)) < (↑tabP0.length : Int)))
          (some (IntKind.i64.wrap (32 + IntKind.i64.wrap (↑(tabP0.getD (IntKind.u8.wrap (a0.fdiv (2 ^ min (Int.toNat 32) IntKind.u64.bits))).toNat 0).toNat : Int))))
          (none))))
    (cond (decide (a0 ≥ 65536))
      (cond (decide (a0.fdiv (2 ^ min (Int.toNat 16) IntKind.u64.bits) ≥ 256))
        (cond (decide (0 ≤ IntKind.u8.wrap ((a0.fdiv (2 ^ min (Int.toNat 16) IntKind.u64.bits)).fdiv (2 ^ min (Int.toNat 8) IntKind.u64.bits))) && decide (IntKind.u8.wrap ((a0.fdiv (2 ^ min (Int.toNat 16) IntKind.u64.bits)).fdiv (2 ^ min (Int.toNat 8) IntKind.u64.bits)) < (↑tabP0.length : Int)))
          (some (IntKind.i64.wrap (IntKind.i64.wrap (IntKind.i64.wrap (0 + 16) + 8) + IntKind.i64.wrap (↑(tabP0.getD (IntKind.u8.wrap ((a0.fdiv (2 ^ min (Int.toNat 16) IntKind.u64.bits)).fdiv (2 ^ min (Int.toNat 8) IntKind.u64.bits))).toNat 0).toNat : Int))))
          (none))
        (cond (decide (0 ≤ IntKind.u8.wrap (a0.fdiv (2 ^ min (Int.toNat 16) IntKind.u64.bits))) && decide (IntKind.u8.wrap (a0.fdiv (2 ^ min (Int.toNat 16) IntKind.u64.bits)) < (↑tabP0.length : Int)))
          (some (IntKind.i64.wrap (IntKind.i64.wrap (0 + 16) + IntKind.i64.wrap (↑(tabP0.getD (IntKind.u8.wrap (a0.fdiv (2 ^ min (Int.toNat 16) IntKind.u64.bits))).toNat 0).toNat : Int))))
          (none)))
      (cond (decide (a0 ≥ 256))
        (cond (decide (0 ≤ IntKind.u8.wrap (a0.fdiv (2 ^ min (Int.toNat 8) IntKind.u64.bits))) && decide (IntKind.u8.wrap (a0.fdiv (2 ^ min (Int.toNat 8) IntKind.u64.bits)) < (↑tabP0.length : Int)))
          (some (IntKind.i64.wrap (IntKind.i64.wrap (0 + 8) + IntKind.i64.wrap (↑(tabP0.getD (IntKind.u8.wrap (a0.fdiv (2 ^ min (Int.toNat 8) IntKind.u64.bits))).toNat 0).toNat : Int))))
          (none))
        (cond (decide (0 ≤ IntKind.u8.wrap a0) && decide (IntKind.u8.wrap a0 < (↑tabP0.length : Int)))
          (some (IntKind.i64.wrap (0 + IntKind.i64.wrap (↑(tabP0.getD (IntKind.u8.wrap a0).toNat 0).toNat : Int))))
          (none))))
noncomputable def i96 : FI := ⟨ps96, .ty (.i .i64), fun a0 => g96 a0⟩
theorem e96 : (fun a => i96.G a) = fnEval T Y env96 an i96.ps i96.rs true Tryz.f96.results.toList lv96 c96 := by kernel_rfl
theorem lo96 : loopsOf c96 = [] := by kernel_rfl
theorem ll96 : LoopsOk T Y env96 an lv96 (finO T true ps96 (.ty (.i .i64)) Tryz.f96.results.toList) c96 := loopsOk_of (by rw [lo96]; exact trivial)
theorem k96 : FnOk Tryz.prog 96 i96 :=
  fn_ok (T := T) (Y := Y) (an := an) (env := env96) (fr := true) (lenv := lv96) mixed tok.1 tok.2 (envNil) (fn := Tryz.f96) (c := c96) (by kernel_rfl) (by kernel_rfl) (by kernel_rfl) ll96 (fun a => congrFun e96 a)
/-! ### math/bits.Len -/
noncomputable def c85 : Code := Tryz.f85.body.getD .skip
noncomputable def env85 : Env := mkEnv [(96, i96)]
abbrev ps85 : List PSh := [.d (.i .u64)]
abbrev D85 : Type := pairD (.ty (.i .i64)) (osOf ps85)
noncomputable def lv85 : Nat → Option (LI D85) := fun _ => none
noncomputable def g85 (a0 : Int) : Option (Int) :=
  Option.bind (g96 a0) fun v1 =>
  some (v1)
noncomputable def i85 : FI := ⟨ps85, .ty (.i .i64), fun a0 => g85 a0⟩
theorem e85 : (fun a => i85.G a) = fnEval T Y env85 an i85.ps i85.rs true Tryz.f85.results.toList lv85 c85 := by kernel_rfl
theorem lo85 : loopsOf c85 = [] := by kernel_rfl
theorem ll85 : LoopsOk T Y env85 an lv85 (finO T true ps85 (.ty (.i .i64)) Tryz.f85.results.toList) c85 := loopsOk_of (by rw [lo85]; exact trivial)
theorem k85 : FnOk Tryz.prog 85 i85 :=
  fn_ok (T := T) (Y := Y) (an := an) (env := env85) (fr := true) (lenv := lv85) mixed tok.1 tok.2 (envCons k96 (envNil)) (fn := Tryz.f85) (c := c85) (by kernel_rfl) (by kernel_rfl) (by kernel_rfl) ll85 (fun a => congrFun e85 a)
/-! ### slices.Sort[[]int,int] -/
noncomputable def c81 : Code := Tryz.f81.body.getD .skip
noncomputable def env81 : Env := mkEnv [(85, i85), (84, i84)]
abbrev ps81 : List PSh := [.io (.ow 1 (.i .i64)) (.ow 1 (.i .i64))]
abbrev D81 : Type := pairD (.un) (osOf ps81)
noncomputable def lv81 : Nat → Option (LI D81) := fun _ => none
noncomputable def g81 (a0 : List Int) : Option (Unit × List Int) :=
  Option.bind (g85 (IntKind.u64.wrap (↑a0.length : Int))) fun v1 =>
  Option.bind (g84 a0 0 (↑a0.length : Int) v1) fun v2 =>
  cond (List.length v2.2 == a0.length && true)
    (some (((), v2.2)))
    (none)
noncomputable def i81 : FI := ⟨ps81, .un, fun a0 => g81 a0⟩
theorem e81 : (fun a => i81.G a) = fnEval T Y env81 an i81.ps i81.rs true Tryz.f81.results.toList lv81 c81 := by kernel_rfl
theorem lo81 : loopsOf c81 = [] := by kernel_rfl
theorem ll81 : LoopsOk T Y env81 an lv81 (finO T true ps81 (.un) Tryz.f81.results.toList) c81 := loopsOk_of (by rw [lo81]; exact trivial)
theorem k81 : FnOk Tryz.prog 81 i81 :=
  fn_ok (T := T) (Y := Y) (an := an) (env := env81) (fr := true) (lenv := lv81) mixed tok.1 tok.2 (envCons k85 (envCons k84 (envNil))) (fn := Tryz.f81) (c := c81) (by kernel_rfl) (by kernel_rfl) (by kernel_rfl) ll81 (fun a => congrFun e81 a)
/-! ### slices.Compact[[]int,int] -/
noncomputable def c82 : Code := Tryz.f82.body.getD .skip
noncomputable def env82 : Env := mkEnv []
abbrev ps82 : List PSh := [.ow (.ow 1 (.i .i64))]
abbrev D82 : Type := pairD (.ow 1 (.i .i64)) (osOf ps82)
def ns82_1 : NS := { slots := [(0, .hw 1000000), (3, .ty (.i .i64)), (4, .hd 1000000 false), (5, .ty (.i .i64))], roots := [(1000000, .ar 1 (.i .i64))] }
def ex82_1 : List (Nat × NS) := [(2, { slots := [(0, .hw 1000000), (3, .ty (.i .i64))], roots := [(1000000, .ar 1 (.i .i64))] })]
noncomputable def st82_1 (ih : ((Int × ((Nat × Nat)) × Int) × (List Int)) → Option (((Int) × (List Int)) ⊕ (List Int))) : ((Int × ((Nat × Nat)) × Int) × (List Int)) → Option (((Int) × (List Int)) ⊕ (List Int)) := fun ((t3, (t4_lo, t4_n), t5), r1000000) =>
  cond (decide (t5 < (↑(List.take t4_n (List.drop t4_lo r1000000)).length : Int)))
    (cond (decide (0 ≤ t5) && decide (t5 < (↑t4_n : Int)))
      (cond (decide (t4_lo + t5.toNat < r1000000.length))
        (cond (decide (0 ≤ IntKind.i64.wrap (t5 - 1)) && decide (IntKind.i64.wrap (t5 - 1) < (↑t4_n : Int)))
          (cond (decide (t4_lo + (IntKind.i64.wrap (t5 - 1)).toNat < r1000000.length))
            (cond (r1000000.getD (t4_lo + t5.toNat) 0 != r1000000.getD (t4_lo + (IntKind.i64.wrap (t5 - 1)).toNat) 0)
              (cond (decide (0 ≤ t5) && decide (t5 < (↑t4_n : Int)))
                (cond (decide (t4_lo + t5.toNat < r1000000.length))
                  (cond (decide (0 ≤ t3) && decide (t3 < (↑r1000000.length : Int)))
                    (cond (decide (t3.toNat < r1000000.length))
                      (ih ((IntKind.i64.wrap (t3 + 1), (t4_lo, t4_n), IntKind.i64.wrap (t5 + 1)), r1000000.set t3.toNat (r1000000.getD (t4_lo + t5.toNat) 0)))
                      (none))
                    (none))
                  (none))
                (none))
              (ih ((t3, (t4_lo, t4_n), IntKind.i64.wrap (t5 + 1)), r1000000)))
            (none))
          (none))
        (none))
      (none))
    (some (Sum.inl (t3, r1000000)))
noncomputable def h82_1 : ((Int × ((Nat × Nat)) × Int) × (List Int)) → Option (((Int) × (List Int)) ⊕ (List Int)) := loopN st82_1 fuel
noncomputable def l82_1 : LI D82 := ⟨ns82_1, ex82_1, h82_1⟩
def ns82_0 : NS := { slots := [(0, .hw 1000000), (3, .ty (.i .i64))], roots := [(1000000, .ar 1 (.i .i64))] }
def ex82_0 : List (Nat × NS) := [(0, { slots := [(0, .hw 1000000)], roots := [(1000000, .ar 1 (.i .i64))] })]
noncomputable def st82_0 (ih : ((Int) × (List Int)) → Option (((Unit) × (List Int)) ⊕ (List Int))) : ((Int) × (List Int)) → Option (((Unit) × (List Int)) ⊕ (List Int)) := fun (t3, r1000000) =>
  cond (decide (t3 < (↑r1000000.length : Int)))
    (cond (decide (0 ≤ t3) && decide (t3 < (↑r1000000.length : Int)))
      (cond (decide (t3.toNat < r1000000.length))
        (cond (decide (0 ≤ IntKind.i64.wrap (t3 - 1)) && decide (IntKind.i64.wrap (t3 - 1) < (↑r1000000.length : Int)))
          (cond (decide ((IntKind.i64.wrap (t3 - 1)).toNat < r1000000.length))
            (cond (r1000000.getD t3.toNat 0 == r1000000.getD (IntKind.i64.wrap (t3 - 1)).toNat 0)
              (cond (decide (0 ≤ t3) && decide (t3 ≤ (↑r1000000.length : Int)) && true)
                (Option.bind (h82_1 ((t3, (t3.toNat, r1000000.length - t3.toNat), 1), r1000000)) fun v1 =>
                match v1 with
                | .inl x2 =>
                  cond (decide (0 ≤ x2.1) && decide (x2.1 ≤ (↑(List.length x2.2) : Int)) && true)
                    (cond (decide (Int.toNat x2.1 + (List.length x2.2 - Int.toNat x2.1) ≤ List.length x2.2))
                      (cond (decide (0 ≤ x2.1) && decide (x2.1 ≤ (↑(List.take (Int.toNat x2.1) x2.2 ++ (List.replicate (List.length x2.2 - Int.toNat x2.1) 0 ++ List.drop (Int.toNat x2.1 + (List.replicate (List.length x2.2 - Int.toNat x2.1) (0 : Int)).length) x2.2)).length : Int)) && true)
                        (some (Sum.inr (List.take (Int.toNat x2.1 - 0) (List.drop 0 (List.take (Int.toNat x2.1) x2.2 ++ (List.replicate (List.length x2.2 - Int.toNat x2.1) 0 ++ List.drop (Int.toNat x2.1 + (List.replicate (List.length x2.2 - Int.toNat x2.1) (0 : Int)).length) x2.2))))))
                        (none))
                      (none))
                    (none)
                | .inr x2 =>
                  some (Sum.inr x2))
                (none))
              (ih (IntKind.i64.wrap (t3 + 1), r1000000)))
            (none))
          (none))
        (none))
      (none))
    (some (Sum.inl ((), r1000000)))
noncomputable def h82_0 : ((Int) × (List Int)) → Option (((Unit) × (List Int)) ⊕ (List Int)) := loopN st82_0 fuel
noncomputable def l82_0 : LI D82 := ⟨ns82_0, ex82_0, h82_0⟩
noncomputable def lv82 : Nat → Option (LI D82) := fun q => if q = 4 then some l82_0 else (fun q => if q = 9 then some l82_1 else (fun _ => none) q) q
noncomputable def g82 (a0 : List Int) : Option (List Int) :=
  cond (decide ((↑a0.length : Int) < 2))
    (some (a0))
    (Option.bind (h82_0 (1, a0)) fun v1 =>
    match v1 with
    | .inl x2 =>
      some (x2.2)
    | .inr x2 =>
      some (x2))
noncomputable def i82 : FI := ⟨ps82, .ow 1 (.i .i64), fun a0 => g82 a0⟩
theorem s82_1 : st82_1 = stepEval T Y env82 an lv82 (finO T false ps82 (.ow 1 (.i .i64)) Tryz.f82.results.toList) (loopAt c82 1) ns82_1 ex82_1 := by kernel_rfl
theorem s82_0 : st82_0 = stepEval T Y env82 an lv82 (finO T false ps82 (.ow 1 (.i .i64)) Tryz.f82.results.toList) (loopAt c82 0) ns82_0 ex82_0 := by kernel_rfl
theorem e82 : (fun a => i82.G a) = fnEval T Y env82 an i82.ps i82.rs false Tryz.f82.results.toList lv82 c82 := by kernel_rfl
theorem lo82 : loopsOf c82 = [loopAt c82 0, loopAt c82 1] := by kernel_rfl
theorem ll82 : LoopsOk T Y env82 an lv82 (finO T false ps82 (.ow 1 (.i .i64)) Tryz.f82.results.toList) c82 := loopsOk_of (by rw [lo82]; exact ⟨loop1 (li := l82_0) (by kernel_rfl) (by kernel_rfl) s82_0, ⟨loop1 (li := l82_1) (by kernel_rfl) (by kernel_rfl) s82_1, trivial⟩⟩)
theorem k82 : FnOk Tryz.prog 82 i82 :=
  fn_ok (T := T) (Y := Y) (an := an) (env := env82) (fr := false) (lenv := lv82) mixed tok.1 tok.2 (envNil) (fn := Tryz.f82) (c := c82) (by kernel_rfl) (by kernel_rfl) (by kernel_rfl) ll82 (fun a => congrFun e82 a)
/-! ### broker/brokerref39.Set -/
noncomputable def c76 : Code := Tryz.f76.body.getD .skip
noncomputable def env76 : Env := mkEnv [(64, i64), (81, i81), (82, i82)]
abbrev ps76 : List PSh := [.d (.sl (.i .i64))]
abbrev D76 : Type := pairD (.ow 1 (.i .i64)) (osOf ps76)
noncomputable def lv76 : Nat → Option (LI D76) := fun _ => none
noncomputable def g76 (a0 : List Int) : Option (List Int) :=
  Option.bind (g64 a0) fun v1 =>
  Option.bind (g81 v1) fun v2 =>
  cond (List.length v2.2 == List.length v1 && true)
    (Option.bind (g82 v2.2) fun v3 =>
    some (v3))
    (none)
noncomputable def i76 : FI := ⟨ps76, .ow 1 (.i .i64), fun a0 => g76 a0⟩
theorem e76 : (fun a => i76.G a) = fnEval T Y env76 an i76.ps i76.rs false Tryz.f76.results.toList lv76 c76 := by kernel_rfl
theorem lo76 : loopsOf c76 = [] := by kernel_rfl
theorem ll76 : LoopsOk T Y env76 an lv76 (finO T false ps76 (.ow 1 (.i .i64)) Tryz.f76.results.toList) c76 := loopsOk_of (by rw [lo76]; exact trivial)
theorem k76 : FnOk Tryz.prog 76 i76 :=
  fn_ok (T := T) (Y := Y) (an := an) (env := env76) (fr := false) (lenv := lv76) mixed tok.1 tok.2 (envCons k64 (envCons k81 (envCons k82 (envNil)))) (fn := Tryz.f76) (c := c76) (by kernel_rfl) (by kernel_rfl) (by kernel_rfl) ll76 (fun a => congrFun e76 a)
/-! ### broker/brokerref40.Clone -/
noncomputable def c68 : Code := Tryz.f68.body.getD .skip
noncomputable def env68 : Env := mkEnv [(64, i64)]
abbrev ps68 : List PSh := [.d QS6]
abbrev D68 : Type := pairD (.ag (.pr (.ty (.i .i64)) (.pr (.ty (.i .i64)) (.pr (.ty (.i .i64)) (.pr (.ty (.i .i64)) (.pr (.ty (.i .i64)) (.pr (.ty (.i .i64)) (.ow 1 (.i .i64))))))))) (osOf ps68)
noncomputable def lv68 : Nat → Option (LI D68) := fun _ => none
noncomputable def g68 (a0_0 : Int) (a0_1 : Int) (a0_2 : Int) (a0_3 : Int) (a0_4 : Int) (a0_5 : Int) (a0_6 : List Int) : Option QT3 :=
  Option.bind (g64 a0_6) fun v1 =>
  some ((a0_0, a0_1, a0_2, a0_3, a0_4, a0_5, v1))
noncomputable def i68 : FI := ⟨ps68, .ag (.pr (.ty (.i .i64)) (.pr (.ty (.i .i64)) (.pr (.ty (.i .i64)) (.pr (.ty (.i .i64)) (.pr (.ty (.i .i64)) (.pr (.ty (.i .i64)) (.ow 1 (.i .i64)))))))), fun (a0_0, a0_1, a0_2, a0_3, a0_4, a0_5, a0_6) => g68 a0_0 a0_1 a0_2 a0_3 a0_4 a0_5 a0_6⟩
theorem e68 : (fun a => i68.G a) = fnEval T Y env68 an i68.ps i68.rs false Tryz.f68.results.toList lv68 c68 := by kernel_rfl
theorem lo68 : loopsOf c68 = [] := by kernel_rfl
theorem ll68 : LoopsOk T Y env68 an lv68 (finO T false ps68 (.ag (.pr (.ty (.i .i64)) (.pr (.ty (.i .i64)) (.pr (.ty (.i .i64)) (.pr (.ty (.i .i64)) (.pr (.ty (.i .i64)) (.pr (.ty (.i .i64)) (.ow 1 (.i .i64))))))))) Tryz.f68.results.toList) c68 := loopsOk_of (by rw [lo68]; exact trivial)
theorem k68 : FnOk Tryz.prog 68 i68 :=
  fn_ok (T := T) (Y := Y) (an := an) (env := env68) (fr := false) (lenv := lv68) mixed tok.1 tok.2 (envCons k64 (envNil)) (fn := Tryz.f68) (c := c68) (by kernel_rfl) (by kernel_rfl) (by kernel_rfl) ll68 (fun a => congrFun e68 a)
/-! ### broker/brokerref40.lead -/
noncomputable def c69 : Code := Tryz.f69.body.getD .skip
noncomputable def env69 : Env := mkEnv []
abbrev ps69 : List PSh := [.d QS6]
abbrev D69 : Type := pairD (.ty QS6) (osOf ps69)
noncomputable def lv69 : Nat → Option (LI D69) := fun _ => none
noncomputable def g69 (a0_0 : Int) (a0_1 : Int) (a0_2 : Int) (a0_3 : Int) (a0_4 : Int) (a0_5 : Int) (a0_6 : List Int) : Option QT3 :=
  some ((a0_0, a0_1, a0_2, 2, a0_0, a0_0, []))
noncomputable def i69 : FI := ⟨ps69, .ty QS6, fun (a0_0, a0_1, a0_2, a0_3, a0_4, a0_5, a0_6) => g69 a0_0 a0_1 a0_2 a0_3 a0_4 a0_5 a0_6⟩
theorem e69 : (fun a => i69.G a) = fnEval T Y env69 an i69.ps i69.rs true Tryz.f69.results.toList lv69 c69 := by kernel_rfl
theorem lo69 : loopsOf c69 = [] := by kernel_rfl
theorem ll69 : LoopsOk T Y env69 an lv69 (finO T true ps69 (.ty QS6) Tryz.f69.results.toList) c69 := loopsOk_of (by rw [lo69]; exact trivial)
theorem k69 : FnOk Tryz.prog 69 i69 :=
  fn_ok (T := T) (Y := Y) (an := an) (env := env69) (fr := true) (lenv := lv69) mixed tok.1 tok.2 (envNil) (fn := Tryz.f69) (c := c69) (by kernel_rfl) (by kernel_rfl) (by kernel_rfl) ll69 (fun a => congrFun e69 a)
/-! ### broker/brokerref40.Concerns -/
noncomputable def c50 : Code := Tryz.f50.body.getD .skip
noncomputable def env50 : Env := mkEnv [(59, i59)]
abbrev ps50 : List PSh := [.d QS6, .d QS5]
abbrev D50 : Type := pairD (.ty .b) (osOf ps50)
noncomputable def lv50 : Nat → Option (LI D50) := fun _ => none
noncomputable def g50 (a0_0 : Int) (a0_1 : Int) (a0_2 : Int) (a0_3 : Int) (a0_4 : Int) (a0_5 : Int) (a0_6 : List Int) (a1_0 : Int) (a1_1 : Int) (a1_2 : Int) (a1_3 : Int) (a1_4 : Int) (a1_5 : Int) (a1_6 : Int) (a1_7 : Bool) (a1_8 : List (Int × List UInt8)) : Option (Bool) :=
  cond (a1_2 == a0_0)
    (cond (a1_1 != a0_0)
      (Option.bind (g59 a1_1 0 (IntKind.i64.wrap (a0_1 - 1))) fun v1 =>
      cond (v1)
        (Option.bind (g59 a1_3 1 1099511627776) fun v2 =>
        some (v2))
        (some (false)))
      (some (false)))
    (some (false))
noncomputable def i50 : FI := ⟨ps50, .ty .b, fun ((a0_0, a0_1, a0_2, a0_3, a0_4, a0_5, a0_6), (a1_0, a1_1, a1_2, a1_3, a1_4, a1_5, a1_6, a1_7, a1_8)) => g50 a0_0 a0_1 a0_2 a0_3 a0_4 a0_5 a0_6 a1_0 a1_1 a1_2 a1_3 a1_4 a1_5 a1_6 a1_7 a1_8⟩
theorem e50 : (fun a => i50.G a) = fnEval T Y env50 an i50.ps i50.rs true Tryz.f50.results.toList lv50 c50 := by kernel_rfl
theorem lo50 : loopsOf c50 = [] := by kernel_rfl
theorem ll50 : LoopsOk T Y env50 an lv50 (finO T true ps50 (.ty .b) Tryz.f50.results.toList) c50 := loopsOk_of (by rw [lo50]; exact trivial)
theorem k50 : FnOk Tryz.prog 50 i50 :=
  fn_ok (T := T) (Y := Y) (an := an) (env := env50) (fr := true) (lenv := lv50) mixed tok.1 tok.2 (envCons k59 (envNil)) (fn := Tryz.f50) (c := c50) (by kernel_rfl) (by kernel_rfl) (by kernel_rfl) ll50 (fun a => congrFun e50 a)
/-! ### broker/brokerref40.Campaign -/
noncomputable def c37 : Code := Tryz.f37.body.getD .skip
noncomputable def env37 : Env := mkEnv [(68, i68), (69, i69)]
abbrev ps37 : List PSh := [.d QS6, .d (.i .i64), .d (.i .i64)]
abbrev D37 : Type := pairD (.tup (.pr (.ty QS6) (.ty QS4))) (osOf ps37)
def ns37_0 : NS := { slots := [(3, .pt 3 []), (6, .pt 6 []), (8, .pt 8 []), (9, .hw 53), (1, .ty (.i .i64)), (2, .ty (.i .i64)), (35, .ty (.i .i64)), (36, .ty (.i .i64))], roots := [(53, .ar 9 QS5), (8, .ag (.pr (.ty (.i .i64)) (.pr (.ty (.i .i64)) (.pr (.ty (.i .i64)) (.pr (.ty (.i .i64)) (.pr (.ty (.i .i64)) (.pr (.ty (.i .i64)) (.hw 27)))))))), (6, .ty QS6), (3, .ty QS6), (27, .ar 1 (.i .i64))], ad := [{ t := 9, path := [], g := 53, d := 9, τ := (QS5 : Ty) }] }
def ex37_0 : List (Nat × NS) := [(0, { slots := [(6, .pt 6 []), (8, .pt 8 []), (9, .hw 53)], roots := [(53, .ar 9 QS5), (8, .ag (.pr (.ty (.i .i64)) (.pr (.ty (.i .i64)) (.pr (.ty (.i .i64)) (.pr (.ty (.i .i64)) (.pr (.ty (.i .i64)) (.pr (.ty (.i .i64)) (.hw 27)))))))), (6, .ty QS6), (27, .ar 1 (.i .i64))] })]
noncomputable def st37_0 (ih : ((Int × Int × Int × Int) × ((List QT2) × (Int × Int × Int × Int × Int × Int × Unit) × (Int × Int × Int × Int × Int × Int × List Int) × (Int × Int × Int × Int × Int × Int × List Int) × List Int)) → Option (((Unit) × ((List QT2) × (Int × Int × Int × Int × Int × Int × Unit) × (Int × Int × Int × Int × Int × Int × List Int) × List Int)) ⊕ (((Int × Int × Int × Int × Int × Int × List Int) × List QT2)))) : ((Int × Int × Int × Int) × ((List QT2) × (Int × Int × Int × Int × Int × Int × Unit) × (Int × Int × Int × Int × Int × Int × List Int) × (Int × Int × Int × Int × Int × Int × List Int) × List Int)) → Option (((Unit) × ((List QT2) × (Int × Int × Int × Int × Int × Int × Unit) × (Int × Int × Int × Int × Int × Int × List Int) × List Int)) ⊕ (((Int × Int × Int × Int × Int × Int × List Int) × List QT2))) := fun ((t1, t2, t35, t36), (r53, (r8_0, r8_1, r8_2, r8_3, r8_4, r8_5, ()), (r6_0, r6_1, r6_2, r6_3, r6_4, r6_5, r6_6), (r3_0, r3_1, r3_2, r3_3, r3_4, r3_5, r3_6), r27)) =>
  cond (decide (t36 < t35))
    (cond (t36 != r3_0)
      (cond (decide (r53.length + 1 ≤ 2147483647))
        (ih ((t1, t2, t35, IntKind.i64.wrap (t36 + 1)), r53 ++ [(1, r3_0, t36, r8_2, t1, t2, 0, false, [])], (r8_0, r8_1, r8_2, r8_3, r8_4, r8_5, ()), (r6_0, r6_1, r6_2, r6_3, r6_4, r6_5, r6_6), (r3_0, r3_1, r3_2, r3_3, r3_4, r3_5, r3_6), r27))
        (none))
      (ih ((t1, t2, t35, IntKind.i64.wrap (t36 + 1)), r53, (r8_0, r8_1, r8_2, r8_3, r8_4, r8_5, ()), (r6_0, r6_1, r6_2, r6_3, r6_4, r6_5, r6_6), (r3_0, r3_1, r3_2, r3_3, r3_4, r3_5, r3_6), r27)))
    (some (Sum.inl ((), r53, (r8_0, r8_1, r8_2, r8_3, r8_4, r8_5, ()), (r6_0, r6_1, r6_2, r6_3, r6_4, r6_5, r6_6), r27)))
noncomputable def h37_0 : ((Int × Int × Int × Int) × ((List QT2) × (Int × Int × Int × Int × Int × Int × Unit) × (Int × Int × Int × Int × Int × Int × List Int) × (Int × Int × Int × Int × Int × Int × List Int) × List Int)) → Option (((Unit) × ((List QT2) × (Int × Int × Int × Int × Int × Int × Unit) × (Int × Int × Int × Int × Int × Int × List Int) × List Int)) ⊕ (((Int × Int × Int × Int × Int × Int × List Int) × List QT2))) := loopN st37_0 fuel
noncomputable def l37_0 : LI D37 := ⟨ns37_0, ex37_0, h37_0⟩
noncomputable def lv37 : Nat → Option (LI D37) := fun q => if q = 8 then some l37_0 else (fun _ => none) q
noncomputable def g37 (a0_0 : Int) (a0_1 : Int) (a0_2 : Int) (a0_3 : Int) (a0_4 : Int) (a0_5 : Int) (a0_6 : List Int) (a1 : Int) (a2 : Int) : Option ((Int × Int × Int × Int × Int × Int × List Int) × List QT2) :=
  cond (decide (a0_2 ≥ 1099511627776))
    (Option.bind (g68 a0_0 a0_1 a0_2 a0_3 a0_4 a0_5 a0_6) fun v1 =>
    some ((v1, [])))
    (cond (a0_1 == 1)
      (Option.bind (g69 a0_0 a0_1 (IntKind.i64.wrap (a0_2 + 1)) 1 a0_0 (-1) [a0_0]) fun v2 =>
      some ((v2, [])))
      (Option.bind (h37_0 ((a1, a2, a0_1, 0), [], (a0_0, a0_1, IntKind.i64.wrap (a0_2 + 1), 1, a0_0, -1, ()), (0, 0, 0, 0, 0, 0, []), (a0_0, a0_1, a0_2, a0_3, a0_4, a0_5, a0_6), [a0_0])) fun v3 =>
      match v3 with
      | .inl x4 =>
        some (((x4.2.2.1.1, x4.2.2.1.2.1, x4.2.2.1.2.2.1, x4.2.2.1.2.2.2.1, x4.2.2.1.2.2.2.2.1, x4.2.2.1.2.2.2.2.2.1, x4.2.2.2.2), x4.2.1))
      | .inr x4 =>
        some (x4)))
noncomputable def i37 : FI := ⟨ps37, .tup (.pr (.ty QS6) (.ty QS4)), fun ((a0_0, a0_1, a0_2, a0_3, a0_4, a0_5, a0_6), a1, a2) => g37 a0_0 a0_1 a0_2 a0_3 a0_4 a0_5 a0_6 a1 a2⟩
theorem s37_0 : st37_0 = stepEval T Y env37 an lv37 (finO T true ps37 (.tup (.pr (.ty QS6) (.ty QS4))) Tryz.f37.results.toList) (loopAt c37 0) ns37_0 ex37_0 := by kernel_rfl
theorem e37 : (fun a => i37.G a) = fnEval T Y env37 an i37.ps i37.rs true Tryz.f37.results.toList lv37 c37 := by kernel_rfl
theorem lo37 : loopsOf c37 = [loopAt c37 0] := by kernel_rfl
theorem ll37 : LoopsOk T Y env37 an lv37 (finO T true ps37 (.tup (.pr (.ty QS6) (.ty QS4))) Tryz.f37.results.toList) c37 := loopsOk_of (by rw [lo37]; exact ⟨loop1 (li := l37_0) (by kernel_rfl) (by kernel_rfl) s37_0, trivial⟩)
theorem k37 : FnOk Tryz.prog 37 i37 :=
  fn_ok (T := T) (Y := Y) (an := an) (env := env37) (fr := true) (lenv := lv37) mixed tok.1 tok.2 (envCons k68 (envCons k69 (envNil))) (fn := Tryz.f37) (c := c37) (by kernel_rfl) (by kernel_rfl) (by kernel_rfl) ll37 (fun a => congrFun e37 a)
/-! ### broker/brokerref40.SameLetter -/
noncomputable def c57 : Code := Tryz.f57.body.getD .skip
noncomputable def env57 : Env := mkEnv [(42, i42)]
abbrev ps57 : List PSh := [.d QS5, .d QS5]
abbrev D57 : Type := pairD (.ty .b) (osOf ps57)
noncomputable def lv57 : Nat → Option (LI D57) := fun _ => none
noncomputable def g57 (a0_0 : Int) (a0_1 : Int) (a0_2 : Int) (a0_3 : Int) (a0_4 : Int) (a0_5 : Int) (a0_6 : Int) (a0_7 : Bool) (a0_8 : List (Int × List UInt8)) (a1_0 : Int) (a1_1 : Int) (a1_2 : Int) (a1_3 : Int) (a1_4 : Int) (a1_5 : Int) (a1_6 : Int) (a1_7 : Bool) (a1_8 : List (Int × List UInt8)) : Option (Bool) :=
  cond (a0_0 == a1_0)
    (cond (a0_1 == a1_1)
      (cond (a0_2 == a1_2)
        (cond (a0_3 == a1_3)
          (cond (a0_4 == a1_4)
            (cond (a0_5 == a1_5)
              (cond (a0_6 == a1_6)
                (cond (a0_7 == a1_7)
                  (Option.bind (g42 a0_8 a1_8) fun v1 =>
                  some (v1))
                  (some (false)))
                (some (false)))
              (some (false)))
            (some (false)))
          (some (false)))
        (some (false)))
      (some (false)))
    (some (false))
noncomputable def i57 : FI := ⟨ps57, .ty .b, fun ((a0_0, a0_1, a0_2, a0_3, a0_4, a0_5, a0_6, a0_7, a0_8), (a1_0, a1_1, a1_2, a1_3, a1_4, a1_5, a1_6, a1_7, a1_8)) => g57 a0_0 a0_1 a0_2 a0_3 a0_4 a0_5 a0_6 a0_7 a0_8 a1_0 a1_1 a1_2 a1_3 a1_4 a1_5 a1_6 a1_7 a1_8⟩
theorem e57 : (fun a => i57.G a) = fnEval T Y env57 an i57.ps i57.rs true Tryz.f57.results.toList lv57 c57 := by kernel_rfl
theorem lo57 : loopsOf c57 = [] := by kernel_rfl
theorem ll57 : LoopsOk T Y env57 an lv57 (finO T true ps57 (.ty .b) Tryz.f57.results.toList) c57 := loopsOk_of (by rw [lo57]; exact trivial)
theorem k57 : FnOk Tryz.prog 57 i57 :=
  fn_ok (T := T) (Y := Y) (an := an) (env := env57) (fr := true) (lenv := lv57) mixed tok.1 tok.2 (envCons k42 (envNil)) (fn := Tryz.f57) (c := c57) (by kernel_rfl) (by kernel_rfl) (by kernel_rfl) ll57 (fun a => congrFun e57 a)
/-! ### broker/brokerref40.SameLetters -/
noncomputable def c17 : Code := Tryz.f17.body.getD .skip
noncomputable def env17 : Env := mkEnv [(57, i57)]
abbrev ps17 : List PSh := [.d QS4, .d QS4]
abbrev D17 : Type := pairD (.ty .b) (osOf ps17)
def ns17_0 : NS := { slots := [(1, .ty QS4), (12, .ty QS4), (13, .ty (.i .i64)), (14, .ty (.i .i64))], roots := [] }
def ex17_0 : List (Nat × NS) := [(0, { slots := [], roots := [] })]
noncomputable def st17_0 (ih : (((List QT2) × (List QT2) × Int × Int) × (Unit)) → Option (((Unit) × (Unit)) ⊕ Bool)) : (((List QT2) × (List QT2) × Int × Int) × (Unit)) → Option (((Unit) × (Unit)) ⊕ Bool) := fun ((t1, t12, t13, t14), ()) =>
  cond (decide (t14 < t13))
    (cond (decide (0 ≤ t14) && decide (t14 < (↑t12.length : Int)))
      (cond (decide (0 ≤ t14) && decide (t14 < (↑t1.length : Int)))
        (Option.bind (g57 (t12.getD t14.toNat (0, 0, 0, 0, 0, 0, 0, false, [])).1 (t12.getD t14.toNat (0, 0, 0, 0, 0, 0, 0, false, [])).2.1 (t12.getD t14.toNat (0, 0, 0, 0, 0, 0, 0, false, [])).2.2.1 (t12.getD t14.toNat (0, 0, 0, 0, 0, 0, 0, false, [])).2.2.2.1 (t12.getD t14.toNat (0, 0, 0, 0, 0, 0, 0, false, [])).2.2.2.2.1 (t12.getD t14.toNat (0, 0, 0, 0, 0, 0, 0, false, [])).2.2.2.2.2.1 (t12.getD t14.toNat (0, 0, 0, 0, 0, 0, 0, false, [])).2.2.2.2.2.2.1 (t12.getD t14.toNat (0, 0, 0, 0, 0, 0, 0, false, [])).2.2.2.2.2.2.2.1 (t12.getD t14.toNat (0, 0, 0, 0, 0, 0, 0, false, [])).2.2.2.2.2.2.2.2 (t1.getD t14.toNat (0, 0, 0, 0, 0, 0, 0, false, [])).1 (t1.getD t14.toNat (0, 0, 0, 0, 0, 0, 0, false, [])).2.1 (t1.getD t14.toNat (0, 0, 0, 0, 0, 0, 0, false, [])).2.2.1 (t1.getD t14.toNat (0, 0, 0, 0, 0, 0, 0, false, [])).2.2.2.1 (t1.getD t14.toNat (0, 0, 0, 0, 0, 0, 0, false, [])).2.2.2.2.1 (t1.getD t14.toNat (0, 0, 0, 0, 0, 0, 0, false, [])).2.2.2.2.2.1 (t1.getD t14.toNat (0, 0, 0, 0, 0, 0, 0, false, [])).2.2.2.2.2.2.1 (t1.getD t14.toNat (0, 0, 0, 0, 0, 0, 0, false, [])).2.2.2.2.2.2.2.1 (t1.getD t14.toNat (0, 0, 0, 0, 0, 0, 0, false, [])).2.2.2.2.2.2.2.2) fun v1 =>
        cond (!v1)
          (some (Sum.inr false))
          (ih ((t1, t12, t13, IntKind.i64.wrap (t14 + 1)), ())))
        (none))
      (none))
    (some (Sum.inl ((), ())))
noncomputable def h17_0 : (((List QT2) × (List QT2) × Int × Int) × (Unit)) → Option (((Unit) × (Unit)) ⊕ Bool) := loopN st17_0 fuel
noncomputable def l17_0 : LI D17 := ⟨ns17_0, ex17_0, h17_0⟩
noncomputable def lv17 : Nat → Option (LI D17) := fun q => if q = 4 then some l17_0 else (fun _ => none) q
noncomputable def g17 (a0 : List QT2) (a1 : List QT2) : Option (Bool) :=
  cond ((↑a0.length : Int) != (↑a1.length : Int))
    (some (false))
    (Option.bind (h17_0 ((a1, a0, (↑a0.length : Int), 0), ())) fun v1 =>
    match v1 with
    | .inl x2 =>
      some (true)
    | .inr x2 =>
      some (x2))
noncomputable def i17 : FI := ⟨ps17, .ty .b, fun (a0, a1) => g17 a0 a1⟩
theorem s17_0 : st17_0 = stepEval T Y env17 an lv17 (finO T true ps17 (.ty .b) Tryz.f17.results.toList) (loopAt c17 0) ns17_0 ex17_0 := by kernel_rfl
theorem e17 : (fun a => i17.G a) = fnEval T Y env17 an i17.ps i17.rs true Tryz.f17.results.toList lv17 c17 := by kernel_rfl
theorem lo17 : loopsOf c17 = [loopAt c17 0] := by kernel_rfl
theorem ll17 : LoopsOk T Y env17 an lv17 (finO T true ps17 (.ty .b) Tryz.f17.results.toList) c17 := loopsOk_of (by rw [lo17]; exact ⟨loop1 (li := l17_0) (by kernel_rfl) (by kernel_rfl) s17_0, trivial⟩)
theorem k17 : FnOk Tryz.prog 17 i17 :=
  fn_ok (T := T) (Y := Y) (an := an) (env := env17) (fr := true) (lenv := lv17) mixed tok.1 tok.2 (envCons k57 (envNil)) (fn := Tryz.f17) (c := c17) (by kernel_rfl) (by kernel_rfl) (by kernel_rfl) ll17 (fun a => congrFun e17 a)
/-! ### broker/brokerref40.Observe -/
noncomputable def c55 : Code := Tryz.f55.body.getD .skip
noncomputable def env55 : Env := mkEnv [(68, i68)]
abbrev ps55 : List PSh := [.d QS6, .d (.i .i64)]
abbrev D55 : Type := pairD (.ag (.pr (.ty (.i .i64)) (.pr (.ty (.i .i64)) (.pr (.ty (.i .i64)) (.pr (.ty (.i .i64)) (.pr (.ty (.i .i64)) (.pr (.ty (.i .i64)) (.ow 1 (.i .i64))))))))) (osOf ps55)
noncomputable def lv55 : Nat → Option (LI D55) := fun _ => none
noncomputable def g55 (a0_0 : Int) (a0_1 : Int) (a0_2 : Int) (a0_3 : Int) (a0_4 : Int) (a0_5 : Int) (a0_6 : List Int) (a1 : Int) : Option QT3 :=
  cond (decide (a1 ≤ a0_2))
    (Option.bind (g68 a0_0 a0_1 a0_2 a0_3 a0_4 a0_5 a0_6) fun v1 =>
    some (v1))
    (cond (decide (a1 > 1099511627776))
      (Option.bind (g68 a0_0 a0_1 a0_2 a0_3 a0_4 a0_5 a0_6) fun v2 =>
      some (v2))
      (some ((a0_0, a0_1, a1, 0, -1, -1, []))))
noncomputable def i55 : FI := ⟨ps55, .ag (.pr (.ty (.i .i64)) (.pr (.ty (.i .i64)) (.pr (.ty (.i .i64)) (.pr (.ty (.i .i64)) (.pr (.ty (.i .i64)) (.pr (.ty (.i .i64)) (.ow 1 (.i .i64)))))))), fun ((a0_0, a0_1, a0_2, a0_3, a0_4, a0_5, a0_6), a1) => g55 a0_0 a0_1 a0_2 a0_3 a0_4 a0_5 a0_6 a1⟩
theorem e55 : (fun a => i55.G a) = fnEval T Y env55 an i55.ps i55.rs false Tryz.f55.results.toList lv55 c55 := by kernel_rfl
theorem lo55 : loopsOf c55 = [] := by kernel_rfl
theorem ll55 : LoopsOk T Y env55 an lv55 (finO T false ps55 (.ag (.pr (.ty (.i .i64)) (.pr (.ty (.i .i64)) (.pr (.ty (.i .i64)) (.pr (.ty (.i .i64)) (.pr (.ty (.i .i64)) (.pr (.ty (.i .i64)) (.ow 1 (.i .i64))))))))) Tryz.f55.results.toList) c55 := loopsOk_of (by rw [lo55]; exact trivial)
theorem k55 : FnOk Tryz.prog 55 i55 :=
  fn_ok (T := T) (Y := Y) (an := an) (env := env55) (fr := false) (lenv := lv55) mixed tok.1 tok.2 (envCons k68 (envNil)) (fn := Tryz.f55) (c := c55) (by kernel_rfl) (by kernel_rfl) (by kernel_rfl) ll55 (fun a => congrFun e55 a)
/-! ### broker/brokerref40.Answer -/
noncomputable def c51 : Code := Tryz.f51.body.getD .skip
noncomputable def env51 : Env := mkEnv [(50, i50), (68, i68), (55, i55)]
abbrev ps51 : List PSh := [.d QS6, .d QS5, .d (.i .i64), .d (.i .i64)]
abbrev D51 : Type := pairD (.tup (.pr (.ty QS6) (.ty QS5))) (osOf ps51)
noncomputable def lv51 : Nat → Option (LI D51) := fun _ => none
noncomputable def g51 (a0_0 : Int) (a0_1 : Int) (a0_2 : Int) (a0_3 : Int) (a0_4 : Int) (a0_5 : Int) (a0_6 : List Int) (a1_0 : Int) (a1_1 : Int) (a1_2 : Int) (a1_3 : Int) (a1_4 : Int) (a1_5 : Int) (a1_6 : Int) (a1_7 : Bool) (a1_8 : List (Int × List UInt8)) (a2 : Int) (a3 : Int) : Option ((Int × Int × Int × Int × Int × Int × List Int) × Int × Int × Int × Int × Int × Int × Int × Bool × List (Int × List UInt8)) :=
  cond (a1_0 != 1)
    (Option.bind (g68 a0_0 a0_1 a0_2 a0_3 a0_4 a0_5 a0_6) fun v1 =>
    some ((v1, 0, 0, 0, 0, 0, 0, 0, false, [])))
    (Option.bind (g50 a0_0 a0_1 a0_2 a0_3 a0_4 a0_5 a0_6 a1_0 a1_1 a1_2 a1_3 a1_4 a1_5 a1_6 a1_7 a1_8) fun v2 =>
    cond (!v2)
      (Option.bind (g68 a0_0 a0_1 a0_2 a0_3 a0_4 a0_5 a0_6) fun v3 =>
      some ((v3, 0, 0, 0, 0, 0, 0, 0, false, [])))
      (Option.bind (g55 a0_0 a0_1 a0_2 a0_3 a0_4 a0_5 a0_6 a1_3) fun v4 =>
      cond (decide (a1_5 > a3))
        (cond (a1_3 == v4.2.2.1)
          (cond (v4.2.2.2.2.1 == -1)
            (some (((v4.1, v4.2.1, v4.2.2.1, v4.2.2.2.1, a1_1, v4.2.2.2.2.2), 2, a0_0, a1_1, v4.2.2.1, 0, 0, 0, true, [])))
            (cond (v4.2.2.2.2.1 == a1_1)
              (some (((v4.1, v4.2.1, v4.2.2.1, v4.2.2.2.1, a1_1, v4.2.2.2.2.2), 2, a0_0, a1_1, v4.2.2.1, 0, 0, 0, true, [])))
              (some ((v4, 2, a0_0, a1_1, v4.2.2.1, 0, 0, 0, false, [])))))
          (some ((v4, 2, a0_0, a1_1, v4.2.2.1, 0, 0, 0, false, []))))
        (cond (a1_5 == a3)
          (cond (a1_3 == v4.2.2.1)
            (cond (v4.2.2.2.2.1 == -1)
              (cond (decide (a1_4 ≥ a2))
                (some (((v4.1, v4.2.1, v4.2.2.1, v4.2.2.2.1, a1_1, v4.2.2.2.2.2), 2, a0_0, a1_1, v4.2.2.1, 0, 0, 0, decide (a1_4 ≥ a2), [])))
                (some ((v4, 2, a0_0, a1_1, v4.2.2.1, 0, 0, 0, decide (a1_4 ≥ a2), []))))
              (cond (v4.2.2.2.2.1 == a1_1)
                (cond (decide (a1_4 ≥ a2))
                  (some (((v4.1, v4.2.1, v4.2.2.1, v4.2.2.2.1, a1_1, v4.2.2.2.2.2), 2, a0_0, a1_1, v4.2.2.1, 0, 0, 0, decide (a1_4 ≥ a2), [])))
                  (some ((v4, 2, a0_0, a1_1, v4.2.2.1, 0, 0, 0, decide (a1_4 ≥ a2), []))))
                (some ((v4, 2, a0_0, a1_1, v4.2.2.1, 0, 0, 0, false, [])))))
            (some ((v4, 2, a0_0, a1_1, v4.2.2.1, 0, 0, 0, false, []))))
          (cond (a1_3 == v4.2.2.1)
            (cond (v4.2.2.2.2.1 == -1)
              (some ((v4, 2, a0_0, a1_1, v4.2.2.1, 0, 0, 0, false, [])))
              (cond (v4.2.2.2.2.1 == a1_1)
                (some ((v4, 2, a0_0, a1_1, v4.2.2.1, 0, 0, 0, false, [])))
                (some ((v4, 2, a0_0, a1_1, v4.2.2.1, 0, 0, 0, false, [])))))
            (some ((v4, 2, a0_0, a1_1, v4.2.2.1, 0, 0, 0, false, [])))))))
noncomputable def i51 : FI := ⟨ps51, .tup (.pr (.ty QS6) (.ty QS5)), fun ((a0_0, a0_1, a0_2, a0_3, a0_4, a0_5, a0_6), (a1_0, a1_1, a1_2, a1_3, a1_4, a1_5, a1_6, a1_7, a1_8), a2, a3) => g51 a0_0 a0_1 a0_2 a0_3 a0_4 a0_5 a0_6 a1_0 a1_1 a1_2 a1_3 a1_4 a1_5 a1_6 a1_7 a1_8 a2 a3⟩
theorem e51 : (fun a => i51.G a) = fnEval T Y env51 an i51.ps i51.rs true Tryz.f51.results.toList lv51 c51 := by kernel_rfl
theorem lo51 : loopsOf c51 = [] := by kernel_rfl
theorem ll51 : LoopsOk T Y env51 an lv51 (finO T true ps51 (.tup (.pr (.ty QS6) (.ty QS5))) Tryz.f51.results.toList) c51 := loopsOk_of (by rw [lo51]; exact trivial)
theorem k51 : FnOk Tryz.prog 51 i51 :=
  fn_ok (T := T) (Y := Y) (an := an) (env := env51) (fr := true) (lenv := lv51) mixed tok.1 tok.2 (envCons k50 (envCons k68 (envCons k55 (envNil)))) (fn := Tryz.f51) (c := c51) (by kernel_rfl) (by kernel_rfl) (by kernel_rfl) ll51 (fun a => congrFun e51 a)
/-! ### broker/brokerref40.Count -/
noncomputable def c52 : Code := Tryz.f52.body.getD .skip
noncomputable def env52 : Env := mkEnv [(50, i50), (68, i68), (55, i55), (76, i76), (72, i72), (69, i69)]
abbrev ps52 : List PSh := [.d QS6, .d QS5]
abbrev D52 : Type := pairD (.ty QS6) (osOf ps52)
noncomputable def lv52 : Nat → Option (LI D52) := fun _ => none
noncomputable def g52 (a0_0 : Int) (a0_1 : Int) (a0_2 : Int) (a0_3 : Int) (a0_4 : Int) (a0_5 : Int) (a0_6 : List Int) (a1_0 : Int) (a1_1 : Int) (a1_2 : Int) (a1_3 : Int) (a1_4 : Int) (a1_5 : Int) (a1_6 : Int) (a1_7 : Bool) (a1_8 : List (Int × List UInt8)) : Option QT3 :=
  cond (a1_0 != 2)
    (Option.bind (g68 a0_0 a0_1 a0_2 a0_3 a0_4 a0_5 a0_6) fun v1 =>
    some (v1))
    (Option.bind (g50 a0_0 a0_1 a0_2 a0_3 a0_4 a0_5 a0_6 a1_0 a1_1 a1_2 a1_3 a1_4 a1_5 a1_6 a1_7 a1_8) fun v2 =>
    cond (!v2)
      (Option.bind (g68 a0_0 a0_1 a0_2 a0_3 a0_4 a0_5 a0_6) fun v3 =>
      some (v3))
      (Option.bind (g55 a0_0 a0_1 a0_2 a0_3 a0_4 a0_5 a0_6 a1_3) fun v4 =>
      cond (a1_3 != a0_2)
        (some (v4))
        (cond (a0_3 != 1)
          (some (v4))
          (cond (!a1_7)
            (some (v4))
            (cond (decide (List.length v4.2.2.2.2.2.2 + 1 ≤ 2147483647))
              (Option.bind (g76 (v4.2.2.2.2.2.2 ++ [a1_1])) fun v5 =>
              Option.bind (g72 (↑(List.length v5) : Int) a0_1) fun v6 =>
              cond (v6)
                (Option.bind (g69 v4.1 v4.2.1 v4.2.2.1 v4.2.2.2.1 v4.2.2.2.2.1 v4.2.2.2.2.2.1 v5) fun v7 =>
                some (v7))
                (some ((v4.1, v4.2.1, v4.2.2.1, v4.2.2.2.1, v4.2.2.2.2.1, v4.2.2.2.2.2.1, v5))))
              (none))))))
noncomputable def i52 : FI := ⟨ps52, .ty QS6, fun ((a0_0, a0_1, a0_2, a0_3, a0_4, a0_5, a0_6), (a1_0, a1_1, a1_2, a1_3, a1_4, a1_5, a1_6, a1_7, a1_8)) => g52 a0_0 a0_1 a0_2 a0_3 a0_4 a0_5 a0_6 a1_0 a1_1 a1_2 a1_3 a1_4 a1_5 a1_6 a1_7 a1_8⟩
theorem e52 : (fun a => i52.G a) = fnEval T Y env52 an i52.ps i52.rs true Tryz.f52.results.toList lv52 c52 := by kernel_rfl
theorem lo52 : loopsOf c52 = [] := by kernel_rfl
theorem ll52 : LoopsOk T Y env52 an lv52 (finO T true ps52 (.ty QS6) Tryz.f52.results.toList) c52 := loopsOk_of (by rw [lo52]; exact trivial)
theorem k52 : FnOk Tryz.prog 52 i52 :=
  fn_ok (T := T) (Y := Y) (an := an) (env := env52) (fr := true) (lenv := lv52) mixed tok.1 tok.2 (envCons k50 (envCons k68 (envCons k55 (envCons k76 (envCons k72 (envCons k69 (envNil))))))) (fn := Tryz.f52) (c := c52) (by kernel_rfl) (by kernel_rfl) (by kernel_rfl) ll52 (fun a => congrFun e52 a)
end Go.Proofs.YtfadalgikdffeaaGreat.EVT
