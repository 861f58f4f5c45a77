/- What functions compute, as printed (U, part S). -/
import Derived.Test.YtkkelbakadbbhaaUB
set_option linter.unusedVariables false
set_option maxRecDepth 100000
set_option maxHeartbeats 0
namespace Go.Proofs.Ytkkelbakadbbhaa.EVT
open Go Go.EV
/-! ### broker/segment.New -/
noncomputable def c51 : Code := Try.f51.body.getD .skip
noncomputable def env51 : Env := mkEnv []
abbrev ps51 : List PSh := [.d (.i .i64)]
abbrev D51 : Type := pairD (.ty (.st (.pr (.i .i64) (.pr (.i .i64) (.sl .u8))))) (osOf ps51)
noncomputable def lv51 : Nat → Option (LI D51) := fun _ => none
noncomputable def g51 (a0 : Int) : Option (Int × Int × List UInt8) :=
  some ((a0, a0, []))
noncomputable def i51 : FI := ⟨ps51, .ty (.st (.pr (.i .i64) (.pr (.i .i64) (.sl .u8)))), fun a0 => g51 a0⟩
theorem e51 : (fun a => i51.G a) = fnEval T Y env51 an i51.ps i51.rs true Try.f51.results.toList lv51 c51 := by kernel_rfl
theorem lo51 : loopsOf c51 = [] := by kernel_rfl
theorem ll51 : LoopsOk T Y env51 an lv51 (finO T true ps51 (.ty (.st (.pr (.i .i64) (.pr (.i .i64) (.sl .u8))))) Try.f51.results.toList) c51 := loopsOk_of (by rw [lo51]; exact trivial)
theorem k51 : FnOk Try.prog 51 i51 :=
  fn_ok (T := T) (Y := Y) (an := an) (env := env51) (fr := true) (lenv := lv51) mixed tok.1 tok.2 (envNil) (fn := Try.f51) (c := c51) (by kernel_rfl) (by kernel_rfl) (by kernel_rfl) ll51 (fun a => congrFun e51 a)
/-! ### broker/segment.owned -/
noncomputable def c78 : Code := Try.f78.body.getD .skip
noncomputable def env78 : Env := mkEnv []
abbrev ps78 : List PSh := [.d (.sl .u8), .d (.sl .u8)]
abbrev D78 : Type := pairD (.ty (.sl .u8)) (osOf ps78)
noncomputable def lv78 : Nat → Option (LI D78) := fun _ => none
noncomputable def g78 (a0 : List UInt8) (a1 : List UInt8) : Option (List UInt8) :=
  cond (decide (0 ≤ IntKind.i64.wrap ((↑a0.length : Int) + (↑a1.length : Int))) && decide (IntKind.i64.wrap ((↑a0.length : Int) + (↑a1.length : Int)) ≤ IntKind.i64.wrap ((↑a0.length : Int) + (↑a1.length : Int))) && decide (IntKind.i64.wrap ((↑a0.length : Int) + (↑a1.length : Int)) ≤ 2147483647))
    (cond (decide (0 + (List.replicate (IntKind.i64.wrap ((↑a0.length : Int) + (↑a1.length : Int))).toNat (UInt8.ofNat (Int.toNat 0))).length ≤ (List.replicate (IntKind.i64.wrap ((↑a0.length : Int) + (↑a1.length : Int))).toNat (UInt8.ofNat (Int.toNat 0))).length))
      (cond (decide (0 ≤ (↑a0.length : Int)) && decide ((↑a0.length : Int) ≤ (↑(List.take 0 (List.replicate (IntKind.i64.wrap ((↑a0.length : Int) + (↑a1.length : Int))).toNat (UInt8.ofNat (Int.toNat 0))) ++ (List.take (List.replicate (IntKind.i64.wrap ((↑a0.length : Int) + (↑a1.length : Int))).toNat (UInt8.ofNat (Int.toNat 0))).length a0 ++ List.drop (0 + (List.take (List.replicate (IntKind.i64.wrap ((↑a0.length : Int) + (↑a1.length : Int))).toNat (UInt8.ofNat (Int.toNat 0))).length a0).length) (List.replicate (IntKind.i64.wrap ((↑a0.length : Int) + (↑a1.length : Int))).toNat (UInt8.ofNat (Int.toNat 0))))).length : Int)) && true)
        (cond (decide ((↑a0.length : Int).toNat + ((List.take 0 (List.replicate (IntKind.i64.wrap ((↑a0.length : Int) + (↑a1.length : Int))).toNat (UInt8.ofNat (Int.toNat 0))) ++ (List.take (List.replicate (IntKind.i64.wrap ((↑a0.length : Int) + (↑a1.length : Int))).toNat (UInt8.ofNat (Int.toNat 0))).length a0 ++ List.drop (0 + (List.take (List.replicate (IntKind.i64.wrap ((↑a0.length : Int) + (↑a1.length : Int))).toNat (UInt8.ofNat (Int.toNat 0))).length a0).length) (List.replicate (IntKind.i64.wrap ((↑a0.length : Int) + (↑a1.length : Int))).toNat (UInt8.ofNat (Int.toNat 0))))).length - (↑a0.length : Int).toNat) ≤ (List.take 0 (List.replicate (IntKind.i64.wrap ((↑a0.length : Int) + (↑a1.length : Int))).toNat (UInt8.ofNat (Int.toNat 0))) ++ (List.take (List.replicate (IntKind.i64.wrap ((↑a0.length : Int) + (↑a1.length : Int))).toNat (UInt8.ofNat (Int.toNat 0))).length a0 ++ List.drop (0 + (List.take (List.replicate (IntKind.i64.wrap ((↑a0.length : Int) + (↑a1.length : Int))).toNat (UInt8.ofNat (Int.toNat 0))).length a0).length) (List.replicate (IntKind.i64.wrap ((↑a0.length : Int) + (↑a1.length : Int))).toNat (UInt8.ofNat (Int.toNat 0))))).length))
          (some (List.take (↑a0.length : Int).toNat (List.take 0 (List.replicate (IntKind.i64.wrap ((↑a0.length : Int) + (↑a1.length : Int))).toNat (UInt8.ofNat (Int.toNat 0))) ++ (List.take (List.replicate (IntKind.i64.wrap ((↑a0.length : Int) + (↑a1.length : Int))).toNat (UInt8.ofNat (Int.toNat 0))).length a0 ++ List.drop (0 + (List.take (List.replicate (IntKind.i64.wrap ((↑a0.length : Int) + (↑a1.length : Int))).toNat (UInt8.ofNat (Int.toNat 0))).length a0).length) (List.replicate (IntKind.i64.wrap ((↑a0.length : Int) + (↑a1.length : Int))).toNat (UInt8.ofNat (Int.toNat 0))))) ++ (List.take ((List.take 0 (List.replicate (IntKind.i64.wrap ((↑a0.length : Int) + (↑a1.length : Int))).toNat (UInt8.ofNat (Int.toNat 0))) ++ (List.take (List.replicate (IntKind.i64.wrap ((↑a0.length : Int) + (↑a1.length : Int))).toNat (UInt8.ofNat (Int.toNat 0))).length a0 ++ List.drop (0 + (List.take (List.replicate (IntKind.i64.wrap ((↑a0.length : Int) + (↑a1.length : Int))).toNat (UInt8.ofNat (Int.toNat 0))).length a0).length) (List.replicate (IntKind.i64.wrap ((↑a0.length : Int) + (↑a1.length : Int))).toNat (UInt8.ofNat (Int.toNat 0))))).length - (↑a0.length : Int).toNat) a1 ++ List.drop ((↑a0.length : Int).toNat + (List.take ((List.take 0 (List.replicate (IntKind.i64.wrap ((↑a0.length : Int) + (↑a1.length : Int))).toNat (UInt8.ofNat (Int.toNat 0))) ++ (List.take (List.replicate (IntKind.i64.wrap ((↑a0.length : Int) + (↑a1.length : Int))).toNat (UInt8.ofNat (Int.toNat 0))).length a0 ++ List.drop (0 + (List.take (List.replicate (IntKind.i64.wrap ((↑a0.length : Int) + (↑a1.length : Int))).toNat (UInt8.ofNat (Int.toNat 0))).length a0).length) (List.replicate (IntKind.i64.wrap ((↑a0.length : Int) + (↑a1.length : Int))).toNat (UInt8.ofNat (Int.toNat 0))))).length - (↑a0.length : Int).toNat) a1).length) (List.take 0 (List.replicate (IntKind.i64.wrap ((↑a0.length : Int) + (↑a1.length : Int))).toNat (UInt8.ofNat (Int.toNat 0))) ++ (List.take (List.replicate (IntKind.i64.wrap ((↑a0.length : Int) + (↑a1.length : Int))).toNat (UInt8.ofNat (Int.toNat 0))).length a0 ++ List.drop (0 + (List.take (List.replicate (IntKind.i64.wrap ((↑a0.length : Int) + (↑a1.length : Int))).toNat (UInt8.ofNat (Int.toNat 0))).length a0).length) (List.replicate (IntKind.i64.wrap ((↑a0.length : Int) + (↑a1.length : Int))).toNat (UInt8.ofNat (Int.toNat 0))))))))
          (none))
        (none))
      (none))
    (none)
noncomputable def i78 : FI := ⟨ps78, .ty (.sl .u8), fun (a0, a1) => g78 a0 a1⟩
theorem e78 : (fun a => i78.G a) = fnEval T Y env78 an i78.ps i78.rs true Try.f78.results.toList lv78 c78 := by kernel_rfl
theorem lo78 : loopsOf c78 = [] := by kernel_rfl
theorem ll78 : LoopsOk T Y env78 an lv78 (finO T true ps78 (.ty (.sl .u8)) Try.f78.results.toList) c78 := loopsOk_of (by rw [lo78]; exact trivial)
theorem k78 : FnOk Try.prog 78 i78 :=
  fn_ok (T := T) (Y := Y) (an := an) (env := env78) (fr := true) (lenv := lv78) mixed tok.1 tok.2 (envNil) (fn := Try.f78) (c := c78) (by kernel_rfl) (by kernel_rfl) (by kernel_rfl) ll78 (fun a => congrFun e78 a)
/-! ### broker/segment.Check -/
noncomputable def c48 : Code := Try.f48.body.getD .skip
noncomputable def env48 : Env := mkEnv [(29, i29)]
abbrev ps48 : List PSh := [.d (.st (.pr (.i .i64) (.pr (.i .i64) (.sl .u8))))]
abbrev D48 : Type := pairD (.ty (.i .i64)) (osOf ps48)
def ns48_0 : NS := { slots := [(1, .pt 1 []), (3, .ty (.i .i64)), (4, .ty (.i .i64))], roots := [(1, .ty (.st (.pr (.i .i64) (.pr (.i .i64) (.sl .u8)))))] }
def ex48_0 : List (Nat × NS) := [(0, { slots := [(1, .pt 1 []), (3, .ty (.i .i64))], roots := [(1, .ty (.st (.pr (.i .i64) (.pr (.i .i64) (.sl .u8)))))] })]
noncomputable def st48_0 (ih : ((Int × Int) × (Int × Int × List UInt8)) → Option (((Int) × (Int × Int × List UInt8)) ⊕ Int)) : ((Int × Int) × (Int × Int × List UInt8)) → Option (((Int) × (Int × Int × List UInt8)) ⊕ Int) := fun ((t3, t4), (r1_0, r1_1, r1_2)) =>
  cond (decide (t4 < (↑r1_2.length : Int)))
    (Option.bind (g29 r1_2 t4) fun v1 =>
    cond (v1.2.2 != 0)
      (some (Sum.inr v1.2.2))
      (cond (v1.1.1 != t3)
        (some (Sum.inr 22))
        (ih ((IntKind.i64.wrap (t3 + 1), v1.2.1), r1_0, r1_1, r1_2))))
    (some (Sum.inl (t3, r1_0, r1_1, r1_2)))
noncomputable def h48_0 : ((Int × Int) × (Int × Int × List UInt8)) → Option (((Int) × (Int × Int × List UInt8)) ⊕ Int) := loopN st48_0 fuel
noncomputable def l48_0 : LI D48 := ⟨ns48_0, ex48_0, h48_0⟩
noncomputable def lv48 : Nat → Option (LI D48) := fun q => if q = 7 then some l48_0 else (fun _ => none) q
noncomputable def g48 (a0_0 : Int) (a0_1 : Int) (a0_2 : List UInt8) : Option (Int) :=
  cond (decide (a0_0 < 0))
    (some (1))
    (cond (decide (a0_0 > 1099511627776))
      (some (1))
      (cond (decide ((↑a0_2.length : Int) > 65536))
        (some (5))
        (Option.bind (h48_0 ((a0_0, 0), a0_0, a0_1, a0_2)) fun v1 =>
        match v1 with
        | .inl x2 =>
          cond (x2.2.2.1 != x2.1)
            (some (1))
            (some (0))
        | .inr x2 =>
          some (x2))))
noncomputable def i48 : FI := ⟨ps48, .ty (.i .i64), fun (a0_0, a0_1, a0_2) => g48 a0_0 a0_1 a0_2⟩
theorem s48_0 : st48_0 = stepEval T Y env48 an lv48 (finO T true ps48 (.ty (.i .i64)) Try.f48.results.toList) (loopAt c48 0) ns48_0 ex48_0 := by kernel_rfl
theorem e48 : (fun a => i48.G a) = fnEval T Y env48 an i48.ps i48.rs true Try.f48.results.toList lv48 c48 := by kernel_rfl
theorem lo48 : loopsOf c48 = [loopAt c48 0] := by kernel_rfl
theorem ll48 : LoopsOk T Y env48 an lv48 (finO T true ps48 (.ty (.i .i64)) Try.f48.results.toList) c48 := loopsOk_of (by rw [lo48]; exact ⟨loop1 (li := l48_0) (by kernel_rfl) (by kernel_rfl) s48_0, trivial⟩)
theorem k48 : FnOk Try.prog 48 i48 :=
  fn_ok (T := T) (Y := Y) (an := an) (env := env48) (fr := true) (lenv := lv48) mixed tok.1 tok.2 (envCons k29 (envNil)) (fn := Try.f48) (c := c48) (by kernel_rfl) (by kernel_rfl) (by kernel_rfl) ll48 (fun a => congrFun e48 a)
/-! ### broker/segment.Append -/
noncomputable def c53 : Code := Try.f53.body.getD .skip
noncomputable def env53 : Env := mkEnv [(25, i25), (78, i78)]
abbrev ps53 : List PSh := [.d (.st (.pr (.i .i64) (.pr (.i .i64) (.sl .u8)))), .d (.i .i64), .d .s, .d .s]
abbrev D53 : Type := pairD (.tup (.pr (.ty (.st (.pr (.i .i64) (.pr (.i .i64) (.sl .u8))))) (.pr (.ty (.i .i64)) (.ty (.i .i64))))) (osOf ps53)
noncomputable def lv53 : Nat → Option (LI D53) := fun _ => none
noncomputable def g53 (a0_0 : Int) (a0_1 : Int) (a0_2 : List UInt8) (a1 : Int) (a2 : List UInt8) (a3 : List UInt8) : Option ((Int × Int × List UInt8) × Int × Int) :=
  Option.bind (g25 a0_1 a1 a2 a3) fun v1 =>
  cond (v1.2 != 0)
    (some (((0, 0, []), 0, v1.2)))
    (cond (decide (IntKind.i64.wrap ((↑a0_2.length : Int) + (↑(List.length v1.1) : Int)) > 65536))
      (some (((0, 0, []), 0, 6)))
      (Option.bind (g78 a0_2 v1.1) fun v2 =>
      some (((a0_0, IntKind.i64.wrap (a0_1 + 1), v2), a0_1, 0))))
noncomputable def i53 : FI := ⟨ps53, .tup (.pr (.ty (.st (.pr (.i .i64) (.pr (.i .i64) (.sl .u8))))) (.pr (.ty (.i .i64)) (.ty (.i .i64)))), fun ((a0_0, a0_1, a0_2), a1, a2, a3) => g53 a0_0 a0_1 a0_2 a1 a2 a3⟩
theorem e53 : (fun a => i53.G a) = fnEval T Y env53 an i53.ps i53.rs true Try.f53.results.toList lv53 c53 := by kernel_rfl
theorem lo53 : loopsOf c53 = [] := by kernel_rfl
theorem ll53 : LoopsOk T Y env53 an lv53 (finO T true ps53 (.tup (.pr (.ty (.st (.pr (.i .i64) (.pr (.i .i64) (.sl .u8))))) (.pr (.ty (.i .i64)) (.ty (.i .i64))))) Try.f53.results.toList) c53 := loopsOk_of (by rw [lo53]; exact trivial)
theorem k53 : FnOk Try.prog 53 i53 :=
  fn_ok (T := T) (Y := Y) (an := an) (env := env53) (fr := true) (lenv := lv53) mixed tok.1 tok.2 (envCons k25 (envCons k78 (envNil))) (fn := Try.f53) (c := c53) (by kernel_rfl) (by kernel_rfl) (by kernel_rfl) ll53 (fun a => congrFun e53 a)
/-! ### broker/segment.Records -/
noncomputable def c55 : Code := Try.f55.body.getD .skip
noncomputable def env55 : Env := mkEnv [(29, i29)]
abbrev ps55 : List PSh := [.d (.st (.pr (.i .i64) (.pr (.i .i64) (.sl .u8))))]
abbrev D55 : Type := pairD (.ty (.sl (.st (.pr (.i .i64) (.pr (.i .i64) (.pr .s .s)))))) (osOf ps55)
def ns55_0 : NS := { slots := [(1, .pt 1 []), (3, .hw 26), (4, .ty (.i .i64))], roots := [(26, .ar 4 (.st (.pr (.i .i64) (.pr (.i .i64) (.pr .s .s))))), (1, .ty (.st (.pr (.i .i64) (.pr (.i .i64) (.sl .u8)))))], ad := [{ t := 3, path := [], g := 26, d := 4, τ := (.st (.pr (.i .i64) (.pr (.i .i64) (.pr .s .s))) : Ty) }] }
def ex55_0 : List (Nat × NS) := [(0, { slots := [(3, .hw 26)], roots := [(26, .ar 4 (.st (.pr (.i .i64) (.pr (.i .i64) (.pr .s .s)))))] })]
noncomputable def st55_0 (ih : ((Int) × ((List (Int × Int × List UInt8 × List UInt8)) × Int × Int × List UInt8)) → Option (((Unit) × (List (Int × Int × List UInt8 × List UInt8))) ⊕ ((List (Int × Int × List UInt8 × List UInt8))))) : ((Int) × ((List (Int × Int × List UInt8 × List UInt8)) × Int × Int × List UInt8)) → Option (((Unit) × (List (Int × Int × List UInt8 × List UInt8))) ⊕ ((List (Int × Int × List UInt8 × List UInt8)))) := fun (t4, (r26, (r1_0, r1_1, r1_2))) =>
  cond (decide (t4 < (↑r1_2.length : Int)))
    (Option.bind (g29 r1_2 t4) fun v1 =>
    cond (v1.2.2 != 0)
      (some (Sum.inl ((), r26)))
      (cond (decide (r26.length + 1 ≤ 2147483647))
        (ih (v1.2.1, r26 ++ [v1.1], r1_0, r1_1, r1_2))
        (none)))
    (some (Sum.inl ((), r26)))
noncomputable def h55_0 : ((Int) × ((List (Int × Int × List UInt8 × List UInt8)) × Int × Int × List UInt8)) → Option (((Unit) × (List (Int × Int × List UInt8 × List UInt8))) ⊕ ((List (Int × Int × List UInt8 × List UInt8)))) := loopN st55_0 fuel
noncomputable def l55_0 : LI D55 := ⟨ns55_0, ex55_0, h55_0⟩
noncomputable def lv55 : Nat → Option (LI D55) := fun q => if q = 3 then some l55_0 else (fun _ => none) q
noncomputable def g55 (a0_0 : Int) (a0_1 : Int) (a0_2 : List UInt8) : Option (List (Int × Int × List UInt8 × List UInt8)) :=
  Option.bind (h55_0 (0, [], a0_0, a0_1, a0_2)) fun v1 =>
  match v1 with
  | .inl x2 =>
    some (x2.2)
  | .inr x2 =>
    some (x2)
noncomputable def i55 : FI := ⟨ps55, .ty (.sl (.st (.pr (.i .i64) (.pr (.i .i64) (.pr .s .s))))), fun (a0_0, a0_1, a0_2) => g55 a0_0 a0_1 a0_2⟩
theorem s55_0 : st55_0 = stepEval T Y env55 an lv55 (finO T true ps55 (.ty (.sl (.st (.pr (.i .i64) (.pr (.i .i64) (.pr .s .s)))))) Try.f55.results.toList) (loopAt c55 0) ns55_0 ex55_0 := by kernel_rfl
theorem e55 : (fun a => i55.G a) = fnEval T Y env55 an i55.ps i55.rs true Try.f55.results.toList lv55 c55 := by kernel_rfl
theorem lo55 : loopsOf c55 = [loopAt c55 0] := by kernel_rfl
theorem ll55 : LoopsOk T Y env55 an lv55 (finO T true ps55 (.ty (.sl (.st (.pr (.i .i64) (.pr (.i .i64) (.pr .s .s)))))) Try.f55.results.toList) c55 := loopsOk_of (by rw [lo55]; exact ⟨loop1 (li := l55_0) (by kernel_rfl) (by kernel_rfl) s55_0, trivial⟩)
theorem k55 : FnOk Try.prog 55 i55 :=
  fn_ok (T := T) (Y := Y) (an := an) (env := env55) (fr := true) (lenv := lv55) mixed tok.1 tok.2 (envCons k29 (envNil)) (fn := Try.f55) (c := c55) (by kernel_rfl) (by kernel_rfl) (by kernel_rfl) ll55 (fun a => congrFun e55 a)
/-! ### broker/segment.Truncate -/
noncomputable def c57 : Code := Try.f57.body.getD .skip
noncomputable def env57 : Env := mkEnv [(29, i29), (78, i78)]
abbrev ps57 : List PSh := [.d (.st (.pr (.i .i64) (.pr (.i .i64) (.sl .u8)))), .d (.i .i64)]
abbrev D57 : Type := pairD (.ty (.st (.pr (.i .i64) (.pr (.i .i64) (.sl .u8))))) (osOf ps57)
def ns57_0 : NS := { slots := [(2, .pt 2 []), (4, .pt 4 []), (1, .ty (.i .i64)), (5, .ty (.i .i64)), (6, .ty (.i .i64))], roots := [(4, .ty (.st (.pr (.i .i64) (.pr (.i .i64) (.sl .u8))))), (2, .ty (.st (.pr (.i .i64) (.pr (.i .i64) (.sl .u8)))))] }
def ex57_0 : List (Nat × NS) := [(0, { slots := [(2, .pt 2 []), (4, .pt 4 []), (5, .ty (.i .i64)), (6, .ty (.i .i64))], roots := [(4, .ty (.st (.pr (.i .i64) (.pr (.i .i64) (.sl .u8))))), (2, .ty (.st (.pr (.i .i64) (.pr (.i .i64) (.sl .u8)))))] })]
noncomputable def st57_0 (ih : ((Int × Int × Int) × ((Int × Int × List UInt8) × Int × Int × List UInt8)) → Option (((Int × Int) × ((Int × Int × List UInt8) × Int × Int × List UInt8)) ⊕ ((Int × Int × List UInt8)))) : ((Int × Int × Int) × ((Int × Int × List UInt8) × Int × Int × List UInt8)) → Option (((Int × Int) × ((Int × Int × List UInt8) × Int × Int × List UInt8)) ⊕ ((Int × Int × List UInt8))) := fun ((t1, t5, t6), ((r4_0, r4_1, r4_2), (r2_0, r2_1, r2_2))) =>
  cond (decide (t6 < (↑r2_2.length : Int)))
    (cond (decide (t5 < t1))
      (Option.bind (g29 r2_2 t6) fun v1 =>
      cond (v1.2.2 != 0)
        (some (Sum.inl ((t5, t6), (r4_0, r4_1, r4_2), r2_0, r2_1, r2_2)))
        (ih ((t1, IntKind.i64.wrap (t5 + 1), v1.2.1), (r4_0, r4_1, r4_2), r2_0, r2_1, r2_2)))
      (some (Sum.inl ((t5, t6), (r4_0, r4_1, r4_2), r2_0, r2_1, r2_2))))
    (some (Sum.inl ((t5, t6), (r4_0, r4_1, r4_2), r2_0, r2_1, r2_2)))
noncomputable def h57_0 : ((Int × Int × Int) × ((Int × Int × List UInt8) × Int × Int × List UInt8)) → Option (((Int × Int) × ((Int × Int × List UInt8) × Int × Int × List UInt8)) ⊕ ((Int × Int × List UInt8))) := loopN st57_0 fuel
noncomputable def l57_0 : LI D57 := ⟨ns57_0, ex57_0, h57_0⟩
noncomputable def lv57 : Nat → Option (LI D57) := fun q => if q = 2 then some l57_0 else (fun _ => none) q
noncomputable def g57 (a0_0 : Int) (a0_1 : Int) (a0_2 : List UInt8) (a1 : Int) : Option (Int × Int × List UInt8) :=
  Option.bind (h57_0 ((a1, a0_0, 0), (0, 0, []), a0_0, a0_1, a0_2)) fun v1 =>
  match v1 with
  | .inl x2 =>
    cond (decide (0 ≤ x2.1.2) && decide (x2.1.2 ≤ (↑(List.length x2.2.2.2.2) : Int)) && true)
      (Option.bind (g78 (List.drop 0 (List.take (Int.toNat x2.1.2) x2.2.2.2.2)) []) fun v3 =>
      some ((x2.2.2.1, x2.1.1, v3)))
      (none)
  | .inr x2 =>
    some (x2)
noncomputable def i57 : FI := ⟨ps57, .ty (.st (.pr (.i .i64) (.pr (.i .i64) (.sl .u8)))), fun ((a0_0, a0_1, a0_2), a1) => g57 a0_0 a0_1 a0_2 a1⟩
theorem s57_0 : st57_0 = stepEval T Y env57 an lv57 (finO T true ps57 (.ty (.st (.pr (.i .i64) (.pr (.i .i64) (.sl .u8))))) Try.f57.results.toList) (loopAt c57 0) ns57_0 ex57_0 := by kernel_rfl
theorem e57 : (fun a => i57.G a) = fnEval T Y env57 an i57.ps i57.rs true Try.f57.results.toList lv57 c57 := by kernel_rfl
theorem lo57 : loopsOf c57 = [loopAt c57 0] := by kernel_rfl
theorem ll57 : LoopsOk T Y env57 an lv57 (finO T true ps57 (.ty (.st (.pr (.i .i64) (.pr (.i .i64) (.sl .u8))))) Try.f57.results.toList) c57 := loopsOk_of (by rw [lo57]; exact ⟨loop1 (li := l57_0) (by kernel_rfl) (by kernel_rfl) s57_0, trivial⟩)
theorem k57 : FnOk Try.prog 57 i57 :=
  fn_ok (T := T) (Y := Y) (an := an) (env := env57) (fr := true) (lenv := lv57) mixed tok.1 tok.2 (envCons k29 (envCons k78 (envNil))) (fn := Try.f57) (c := c57) (by kernel_rfl) (by kernel_rfl) (by kernel_rfl) ll57 (fun a => congrFun e57 a)
/-! ### broker/segment.Recover -/
noncomputable def c59 : Code := Try.f59.body.getD .skip
noncomputable def env59 : Env := mkEnv [(29, i29), (78, i78)]
abbrev ps59 : List PSh := [.d (.sl .u8), .d (.i .i64)]
abbrev D59 : Type := pairD (.tup (.pr (.ty (.st (.pr (.i .i64) (.pr (.i .i64) (.sl .u8))))) (.ty (.i .i64)))) (osOf ps59)
def ns59_0 : NS := { slots := [(4, .pt 4 []), (0, .ty (.sl .u8)), (1, .ty (.i .i64)), (6, .ty (.i .i64)), (7, .ty (.i .i64))], roots := [(4, .ty (.st (.pr (.i .i64) (.pr (.i .i64) (.sl .u8)))))] }
def ex59_0 : List (Nat × NS) := [(0, { slots := [(4, .pt 4 []), (0, .ty (.sl .u8)), (1, .ty (.i .i64)), (6, .ty (.i .i64)), (7, .ty (.i .i64))], roots := [(4, .ty (.st (.pr (.i .i64) (.pr (.i .i64) (.sl .u8)))))] })]
noncomputable def st59_0 (ih : ((List UInt8 × Int × Int × Int) × (Int × Int × List UInt8)) → Option (((List UInt8 × Int × Int × Int) × (Int × Int × List UInt8)) ⊕ (((Int × Int × List UInt8) × Int)))) : ((List UInt8 × Int × Int × Int) × (Int × Int × List UInt8)) → Option (((List UInt8 × Int × Int × Int) × (Int × Int × List UInt8)) ⊕ (((Int × Int × List UInt8) × Int))) := fun ((t0, t1, t6, t7), (r4_0, r4_1, r4_2)) =>
  cond (decide (t7 < (↑t0.length : Int)))
    (Option.bind (g29 t0 t7) fun v1 =>
    cond (v1.2.2 != 0)
      (some (Sum.inl ((t0, t1, t6, t7), r4_0, r4_1, r4_2)))
      (cond (v1.1.1 != t6)
        (some (Sum.inl ((t0, t1, t6, t7), r4_0, r4_1, r4_2)))
        (cond (decide (v1.2.1 > 65536))
          (some (Sum.inl ((t0, t1, t6, t7), r4_0, r4_1, r4_2)))
          (ih ((t0, t1, IntKind.i64.wrap (t6 + 1), v1.2.1), r4_0, r4_1, r4_2)))))
    (some (Sum.inl ((t0, t1, t6, t7), r4_0, r4_1, r4_2)))
noncomputable def h59_0 : ((List UInt8 × Int × Int × Int) × (Int × Int × List UInt8)) → Option (((List UInt8 × Int × Int × Int) × (Int × Int × List UInt8)) ⊕ (((Int × Int × List UInt8) × Int))) := loopN st59_0 fuel
noncomputable def l59_0 : LI D59 := ⟨ns59_0, ex59_0, h59_0⟩
noncomputable def lv59 : Nat → Option (LI D59) := fun q => if q = 2 then some l59_0 else (fun _ => none) q
noncomputable def g59 (a0 : List UInt8) (a1 : Int) : Option ((Int × Int × List UInt8) × Int) :=
  Option.bind (h59_0 ((a0, a1, a1, 0), 0, 0, [])) fun v1 =>
  match v1 with
  | .inl x2 =>
    cond (decide (0 ≤ x2.1.2.2.2) && decide (x2.1.2.2.2 ≤ (↑(List.length x2.1.1) : Int)) && true)
      (Option.bind (g78 (List.drop 0 (List.take (Int.toNat x2.1.2.2.2) x2.1.1)) []) fun v3 =>
      some (((x2.1.2.1, x2.1.2.2.1, v3), x2.1.2.2.2)))
      (none)
  | .inr x2 =>
    some (x2)
noncomputable def i59 : FI := ⟨ps59, .tup (.pr (.ty (.st (.pr (.i .i64) (.pr (.i .i64) (.sl .u8))))) (.ty (.i .i64))), fun (a0, a1) => g59 a0 a1⟩
theorem s59_0 : st59_0 = stepEval T Y env59 an lv59 (finO T true ps59 (.tup (.pr (.ty (.st (.pr (.i .i64) (.pr (.i .i64) (.sl .u8))))) (.ty (.i .i64)))) Try.f59.results.toList) (loopAt c59 0) ns59_0 ex59_0 := by kernel_rfl
theorem e59 : (fun a => i59.G a) = fnEval T Y env59 an i59.ps i59.rs true Try.f59.results.toList lv59 c59 := by kernel_rfl
theorem lo59 : loopsOf c59 = [loopAt c59 0] := by kernel_rfl
theorem ll59 : LoopsOk T Y env59 an lv59 (finO T true ps59 (.tup (.pr (.ty (.st (.pr (.i .i64) (.pr (.i .i64) (.sl .u8))))) (.ty (.i .i64)))) Try.f59.results.toList) c59 := loopsOk_of (by rw [lo59]; exact ⟨loop1 (li := l59_0) (by kernel_rfl) (by kernel_rfl) s59_0, trivial⟩)
theorem k59 : FnOk Try.prog 59 i59 :=
  fn_ok (T := T) (Y := Y) (an := an) (env := env59) (fr := true) (lenv := lv59) mixed tok.1 tok.2 (envCons k29 (envCons k78 (envNil))) (fn := Try.f59) (c := c59) (by kernel_rfl) (by kernel_rfl) (by kernel_rfl) ll59 (fun a => congrFun e59 a)
/-! ### broker/brokerref32.New -/
noncomputable def c52 : Code := Try.f52.body.getD .skip
noncomputable def env52 : Env := mkEnv []
abbrev ps52 : List PSh := [.d (.i .i64)]
abbrev D52 : Type := pairD (.ty (.st (.pr (.i .i64) (.pr (.i .i64) (.sl .u8))))) (osOf ps52)
noncomputable def lv52 : Nat → Option (LI D52) := fun _ => none
noncomputable def g52 (a0 : Int) : Option (Int × Int × List UInt8) :=
  some ((a0, a0, []))
noncomputable def i52 : FI := ⟨ps52, .ty (.st (.pr (.i .i64) (.pr (.i .i64) (.sl .u8)))), fun a0 => g52 a0⟩
theorem e52 : (fun a => i52.G a) = fnEval T Y env52 an i52.ps i52.rs true Try.f52.results.toList lv52 c52 := by kernel_rfl
theorem lo52 : loopsOf c52 = [] := by kernel_rfl
theorem ll52 : LoopsOk T Y env52 an lv52 (finO T true ps52 (.ty (.st (.pr (.i .i64) (.pr (.i .i64) (.sl .u8))))) Try.f52.results.toList) c52 := loopsOk_of (by rw [lo52]; exact trivial)
theorem k52 : FnOk Try.prog 52 i52 :=
  fn_ok (T := T) (Y := Y) (an := an) (env := env52) (fr := true) (lenv := lv52) mixed tok.1 tok.2 (envNil) (fn := Try.f52) (c := c52) (by kernel_rfl) (by kernel_rfl) (by kernel_rfl) ll52 (fun a => congrFun e52 a)
/-! ### broker/brokerref32.Check -/
noncomputable def c49 : Code := Try.f49.body.getD .skip
noncomputable def env49 : Env := mkEnv [(30, i30)]
abbrev ps49 : List PSh := [.d (.st (.pr (.i .i64) (.pr (.i .i64) (.sl .u8))))]
abbrev D49 : Type := pairD (.ty (.i .i64)) (osOf ps49)
def ns49_0 : NS := { slots := [(1, .pt 1 []), (3, .ty (.i .i64)), (4, .ty (.i .i64))], roots := [(1, .ty (.st (.pr (.i .i64) (.pr (.i .i64) (.sl .u8)))))] }
def ex49_0 : List (Nat × NS) := [(0, { slots := [(1, .pt 1 []), (4, .ty (.i .i64))], roots := [(1, .ty (.st (.pr (.i .i64) (.pr (.i .i64) (.sl .u8)))))] })]
noncomputable def st49_0 (ih : ((Int × Int) × (Int × Int × List UInt8)) → Option (((Int) × (Int × Int × List UInt8)) ⊕ Int)) : ((Int × Int) × (Int × Int × List UInt8)) → Option (((Int) × (Int × Int × List UInt8)) ⊕ Int) := fun ((t3, t4), (r1_0, r1_1, r1_2)) =>
  cond (decide (t3 < (↑r1_2.length : Int)))
    (Option.bind (g30 r1_2 t3) fun v1 =>
    cond (v1.2.2 != 0)
      (some (Sum.inr v1.2.2))
      (cond (v1.1.1 != IntKind.i64.wrap (r1_0 + t4))
        (some (Sum.inr 22))
        (ih ((v1.2.1, IntKind.i64.wrap (t4 + 1)), r1_0, r1_1, r1_2))))
    (some (Sum.inl (t4, r1_0, r1_1, r1_2)))
noncomputable def h49_0 : ((Int × Int) × (Int × Int × List UInt8)) → Option (((Int) × (Int × Int × List UInt8)) ⊕ Int) := loopN st49_0 fuel
noncomputable def l49_0 : LI D49 := ⟨ns49_0, ex49_0, h49_0⟩
noncomputable def lv49 : Nat → Option (LI D49) := fun q => if q = 7 then some l49_0 else (fun _ => none) q
noncomputable def g49 (a0_0 : Int) (a0_1 : Int) (a0_2 : List UInt8) : Option (Int) :=
  cond (decide (a0_0 < 0))
    (some (1))
    (cond (decide (a0_0 > 1099511627776))
      (some (1))
      (cond (decide ((↑a0_2.length : Int) > 65536))
        (some (5))
        (Option.bind (h49_0 ((0, 0), a0_0, a0_1, a0_2)) fun v1 =>
        match v1 with
        | .inl x2 =>
          cond (x2.2.2.1 != IntKind.i64.wrap (x2.2.1 + x2.1))
            (some (1))
            (some (0))
        | .inr x2 =>
          some (x2))))
noncomputable def i49 : FI := ⟨ps49, .ty (.i .i64), fun (a0_0, a0_1, a0_2) => g49 a0_0 a0_1 a0_2⟩
theorem s49_0 : st49_0 = stepEval T Y env49 an lv49 (finO T true ps49 (.ty (.i .i64)) Try.f49.results.toList) (loopAt c49 0) ns49_0 ex49_0 := by kernel_rfl
theorem e49 : (fun a => i49.G a) = fnEval T Y env49 an i49.ps i49.rs true Try.f49.results.toList lv49 c49 := by kernel_rfl
theorem lo49 : loopsOf c49 = [loopAt c49 0] := by kernel_rfl
theorem ll49 : LoopsOk T Y env49 an lv49 (finO T true ps49 (.ty (.i .i64)) Try.f49.results.toList) c49 := loopsOk_of (by rw [lo49]; exact ⟨loop1 (li := l49_0) (by kernel_rfl) (by kernel_rfl) s49_0, trivial⟩)
theorem k49 : FnOk Try.prog 49 i49 :=
  fn_ok (T := T) (Y := Y) (an := an) (env := env49) (fr := true) (lenv := lv49) mixed tok.1 tok.2 (envCons k30 (envNil)) (fn := Try.f49) (c := c49) (by kernel_rfl) (by kernel_rfl) (by kernel_rfl) ll49 (fun a => congrFun e49 a)
/-! ### broker/brokerref32.Append -/
noncomputable def c54 : Code := Try.f54.body.getD .skip
noncomputable def env54 : Env := mkEnv [(26, i26)]
abbrev ps54 : List PSh := [.d (.st (.pr (.i .i64) (.pr (.i .i64) (.sl .u8)))), .d (.i .i64), .d .s, .d .s]
abbrev D54 : Type := pairD (.tup (.pr (.ty (.st (.pr (.i .i64) (.pr (.i .i64) (.sl .u8))))) (.pr (.ty (.i .i64)) (.ty (.i .i64))))) (osOf ps54)
noncomputable def lv54 : Nat → Option (LI D54) := fun _ => none
noncomputable def g54 (a0_0 : Int) (a0_1 : Int) (a0_2 : List UInt8) (a1 : Int) (a2 : List UInt8) (a3 : List UInt8) : Option ((Int × Int × List UInt8) × Int × Int) :=
  Option.bind (g26 a0_1 a1 a2 a3) fun v1 =>
  cond (v1.2 != 0)
    (some (((0, 0, []), 0, v1.2)))
    (cond (decide (IntKind.i64.wrap ((↑a0_2.length : Int) + (↑(List.length v1.1) : Int)) > 65536))
      (some (((0, 0, []), 0, 6)))
      (cond (decide (0 + a0_2.length ≤ 2147483647))
        (cond (decide (([] ++ a0_2).length + List.length v1.1 ≤ 2147483647))
          (some (((a0_0, IntKind.i64.wrap (a0_1 + 1), [] ++ a0_2 ++ v1.1), a0_1, 0)))
          (none))
        (none)))
noncomputable def i54 : FI := ⟨ps54, .tup (.pr (.ty (.st (.pr (.i .i64) (.pr (.i .i64) (.sl .u8))))) (.pr (.ty (.i .i64)) (.ty (.i .i64)))), fun ((a0_0, a0_1, a0_2), a1, a2, a3) => g54 a0_0 a0_1 a0_2 a1 a2 a3⟩
theorem e54 : (fun a => i54.G a) = fnEval T Y env54 an i54.ps i54.rs true Try.f54.results.toList lv54 c54 := by kernel_rfl
theorem lo54 : loopsOf c54 = [] := by kernel_rfl
theorem ll54 : LoopsOk T Y env54 an lv54 (finO T true ps54 (.tup (.pr (.ty (.st (.pr (.i .i64) (.pr (.i .i64) (.sl .u8))))) (.pr (.ty (.i .i64)) (.ty (.i .i64))))) Try.f54.results.toList) c54 := loopsOk_of (by rw [lo54]; exact trivial)
theorem k54 : FnOk Try.prog 54 i54 :=
  fn_ok (T := T) (Y := Y) (an := an) (env := env54) (fr := true) (lenv := lv54) mixed tok.1 tok.2 (envCons k26 (envNil)) (fn := Try.f54) (c := c54) (by kernel_rfl) (by kernel_rfl) (by kernel_rfl) ll54 (fun a => congrFun e54 a)
/-! ### broker/brokerref32.Records -/
noncomputable def c56 : Code := Try.f56.body.getD .skip
noncomputable def env56 : Env := mkEnv [(30, i30)]
abbrev ps56 : List PSh := [.d (.st (.pr (.i .i64) (.pr (.i .i64) (.sl .u8))))]
abbrev D56 : Type := pairD (.ty (.sl (.st (.pr (.i .i64) (.pr (.i .i64) (.pr .s .s)))))) (osOf ps56)
def ns56_0 : NS := { slots := [(1, .pt 1 []), (3, .hw 27), (4, .ty (.i .i64))], roots := [(27, .ar 4 (.st (.pr (.i .i64) (.pr (.i .i64) (.pr .s .s))))), (1, .ty (.st (.pr (.i .i64) (.pr (.i .i64) (.sl .u8)))))], ad := [{ t := 3, path := [], g := 27, d := 4, τ := (.st (.pr (.i .i64) (.pr (.i .i64) (.pr .s .s))) : Ty) }] }
def ex56_0 : List (Nat × NS) := [(0, { slots := [(3, .hw 27)], roots := [(27, .ar 4 (.st (.pr (.i .i64) (.pr (.i .i64) (.pr .s .s)))))] })]
noncomputable def st56_0 (ih : ((Int) × ((List (Int × Int × List UInt8 × List UInt8)) × Int × Int × List UInt8)) → Option (((Unit) × (List (Int × Int × List UInt8 × List UInt8))) ⊕ ((List (Int × Int × List UInt8 × List UInt8))))) : ((Int) × ((List (Int × Int × List UInt8 × List UInt8)) × Int × Int × List UInt8)) → Option (((Unit) × (List (Int × Int × List UInt8 × List UInt8))) ⊕ ((List (Int × Int × List UInt8 × List UInt8)))) := fun (t4, (r27, (r1_0, r1_1, r1_2))) =>
  cond (decide (t4 < (↑r1_2.length : Int)))
    (Option.bind (g30 r1_2 t4) fun v1 =>
    cond (v1.2.2 != 0)
      (some (Sum.inr r27))
      (cond (decide (r27.length + 1 ≤ 2147483647))
        (ih (v1.2.1, r27 ++ [v1.1], r1_0, r1_1, r1_2))
        (none)))
    (some (Sum.inl ((), r27)))
noncomputable def h56_0 : ((Int) × ((List (Int × Int × List UInt8 × List UInt8)) × Int × Int × List UInt8)) → Option (((Unit) × (List (Int × Int × List UInt8 × List UInt8))) ⊕ ((List (Int × Int × List UInt8 × List UInt8)))) := loopN st56_0 fuel
noncomputable def l56_0 : LI D56 := ⟨ns56_0, ex56_0, h56_0⟩
noncomputable def lv56 : Nat → Option (LI D56) := fun q => if q = 3 then some l56_0 else (fun _ => none) q
noncomputable def g56 (a0_0 : Int) (a0_1 : Int) (a0_2 : List UInt8) : Option (List (Int × Int × List UInt8 × List UInt8)) :=
  Option.bind (h56_0 (0, [], a0_0, a0_1, a0_2)) fun v1 =>
  match v1 with
  | .inl x2 =>
    some (x2.2)
  | .inr x2 =>
    some (x2)
noncomputable def i56 : FI := ⟨ps56, .ty (.sl (.st (.pr (.i .i64) (.pr (.i .i64) (.pr .s .s))))), fun (a0_0, a0_1, a0_2) => g56 a0_0 a0_1 a0_2⟩
theorem s56_0 : st56_0 = stepEval T Y env56 an lv56 (finO T true ps56 (.ty (.sl (.st (.pr (.i .i64) (.pr (.i .i64) (.pr .s .s)))))) Try.f56.results.toList) (loopAt c56 0) ns56_0 ex56_0 := by kernel_rfl
theorem e56 : (fun a => i56.G a) = fnEval T Y env56 an i56.ps i56.rs true Try.f56.results.toList lv56 c56 := by kernel_rfl
theorem lo56 : loopsOf c56 = [loopAt c56 0] := by kernel_rfl
theorem ll56 : LoopsOk T Y env56 an lv56 (finO T true ps56 (.ty (.sl (.st (.pr (.i .i64) (.pr (.i .i64) (.pr .s .s)))))) Try.f56.results.toList) c56 := loopsOk_of (by rw [lo56]; exact ⟨loop1 (li := l56_0) (by kernel_rfl) (by kernel_rfl) s56_0, trivial⟩)
theorem k56 : FnOk Try.prog 56 i56 :=
  fn_ok (T := T) (Y := Y) (an := an) (env := env56) (fr := true) (lenv := lv56) mixed tok.1 tok.2 (envCons k30 (envNil)) (fn := Try.f56) (c := c56) (by kernel_rfl) (by kernel_rfl) (by kernel_rfl) ll56 (fun a => congrFun e56 a)
/-! ### broker/brokerref32.Truncate -/
noncomputable def c58 : Code := Try.f58.body.getD .skip
noncomputable def env58 : Env := mkEnv [(52, i52), (56, i56), (54, i54)]
abbrev ps58 : List PSh := [.d (.st (.pr (.i .i64) (.pr (.i .i64) (.sl .u8)))), .d (.i .i64)]
abbrev D58 : Type := pairD (.ty (.st (.pr (.i .i64) (.pr (.i .i64) (.sl .u8))))) (osOf ps58)
def ns58_0 : NS := { slots := [(4, .pt 4 []), (5, .pt 5 []), (1, .ty (.i .i64)), (6, .ty (.sl (.st (.pr (.i .i64) (.pr (.i .i64) (.pr .s .s)))))), (7, .ty (.i .i64))], roots := [(5, .ty (.st (.pr (.i .i64) (.pr (.i .i64) (.sl .u8))))), (4, .ty (.st (.pr (.i .i64) (.pr (.i .i64) (.sl .u8)))))] }
def ex58_0 : List (Nat × NS) := [(0, { slots := [(4, .pt 4 []), (5, .pt 5 [])], roots := [(5, .ty (.st (.pr (.i .i64) (.pr (.i .i64) (.sl .u8))))), (4, .ty (.st (.pr (.i .i64) (.pr (.i .i64) (.sl .u8)))))] })]
noncomputable def st58_0 (ih : ((Int × (List (Int × Int × List UInt8 × List UInt8)) × Int) × ((Int × Int × List UInt8) × Int × Int × List UInt8)) → Option (((Unit) × ((Int × Int × List UInt8) × Int × Int × List UInt8)) ⊕ ((Int × Int × List UInt8)))) : ((Int × (List (Int × Int × List UInt8 × List UInt8)) × Int) × ((Int × Int × List UInt8) × Int × Int × List UInt8)) → Option (((Unit) × ((Int × Int × List UInt8) × Int × Int × List UInt8)) ⊕ ((Int × Int × List UInt8))) := fun ((t1, t6, t7), ((r5_0, r5_1, r5_2), (r4_0, r4_1, r4_2))) =>
  cond (decide (t7 < (↑t6.length : Int)))
    (cond (decide (0 ≤ t7) && decide (t7 < (↑t6.length : Int)))
      (cond (decide ((t6.getD t7.toNat (0, 0, [], [])).1 < t1))
        (cond (decide (0 ≤ t7) && decide (t7 < (↑t6.length : Int)))
          (cond (decide (0 ≤ t7) && decide (t7 < (↑t6.length : Int)))
            (cond (decide (0 ≤ t7) && decide (t7 < (↑t6.length : Int)))
              (Option.bind (g54 r5_0 r5_1 r5_2 (t6.getD t7.toNat (0, 0, [], [])).2.1 (t6.getD t7.toNat (0, 0, [], [])).2.2.1 (t6.getD t7.toNat (0, 0, [], [])).2.2.2) fun v1 =>
              ih ((t1, t6, IntKind.i64.wrap (t7 + 1)), v1.1, r4_0, r4_1, r4_2))
              (none))
            (none))
          (none))
        (ih ((t1, t6, IntKind.i64.wrap (t7 + 1)), (r5_0, r5_1, r5_2), r4_0, r4_1, r4_2)))
      (none))
    (some (Sum.inl ((), (r5_0, r5_1, r5_2), r4_0, r4_1, r4_2)))
noncomputable def h58_0 : ((Int × (List (Int × Int × List UInt8 × List UInt8)) × Int) × ((Int × Int × List UInt8) × Int × Int × List UInt8)) → Option (((Unit) × ((Int × Int × List UInt8) × Int × Int × List UInt8)) ⊕ ((Int × Int × List UInt8))) := loopN st58_0 fuel
noncomputable def l58_0 : LI D58 := ⟨ns58_0, ex58_0, h58_0⟩
noncomputable def lv58 : Nat → Option (LI D58) := fun q => if q = 4 then some l58_0 else (fun _ => none) q
noncomputable def g58 (a0_0 : Int) (a0_1 : Int) (a0_2 : List UInt8) (a1 : Int) : Option (Int × Int × List UInt8) :=
  Option.bind (g52 a0_0) fun v1 =>
  Option.bind (g56 a0_0 a0_1 a0_2) fun v2 =>
  Option.bind (h58_0 ((a1, v2, 0), v1, 0, 0, [])) fun v3 =>
  match v3 with
  | .inl x4 =>
    some (x4.2.1)
  | .inr x4 =>
    some (x4)
noncomputable def i58 : FI := ⟨ps58, .ty (.st (.pr (.i .i64) (.pr (.i .i64) (.sl .u8)))), fun ((a0_0, a0_1, a0_2), a1) => g58 a0_0 a0_1 a0_2 a1⟩
theorem s58_0 : st58_0 = stepEval T Y env58 an lv58 (finO T true ps58 (.ty (.st (.pr (.i .i64) (.pr (.i .i64) (.sl .u8))))) Try.f58.results.toList) (loopAt c58 0) ns58_0 ex58_0 := by kernel_rfl
theorem e58 : (fun a => i58.G a) = fnEval T Y env58 an i58.ps i58.rs true Try.f58.results.toList lv58 c58 := by kernel_rfl
theorem lo58 : loopsOf c58 = [loopAt c58 0] := by kernel_rfl
theorem ll58 : LoopsOk T Y env58 an lv58 (finO T true ps58 (.ty (.st (.pr (.i .i64) (.pr (.i .i64) (.sl .u8))))) Try.f58.results.toList) c58 := loopsOk_of (by rw [lo58]; exact ⟨loop1 (li := l58_0) (by kernel_rfl) (by kernel_rfl) s58_0, trivial⟩)
theorem k58 : FnOk Try.prog 58 i58 :=
  fn_ok (T := T) (Y := Y) (an := an) (env := env58) (fr := true) (lenv := lv58) mixed tok.1 tok.2 (envCons k52 (envCons k56 (envCons k54 (envNil)))) (fn := Try.f58) (c := c58) (by kernel_rfl) (by kernel_rfl) (by kernel_rfl) ll58 (fun a => congrFun e58 a)
/-! ### broker/brokerref32.Recover -/
noncomputable def c60 : Code := Try.f60.body.getD .skip
noncomputable def env60 : Env := mkEnv [(30, i30)]
abbrev ps60 : List PSh := [.d (.sl .u8), .d (.i .i64)]
abbrev D60 : Type := pairD (.tup (.pr (.ty (.st (.pr (.i .i64) (.pr (.i .i64) (.sl .u8))))) (.ty (.i .i64)))) (osOf ps60)
def ns60_0 : NS := { slots := [(4, .pt 4 []), (0, .ty (.sl .u8)), (1, .ty (.i .i64)), (6, .ty (.i .i64)), (7, .ty (.i .i64))], roots := [(4, .ty (.st (.pr (.i .i64) (.pr (.i .i64) (.sl .u8)))))] }
def ex60_0 : List (Nat × NS) := [(0, { slots := [(4, .pt 4 []), (0, .ty (.sl .u8)), (1, .ty (.i .i64)), (6, .ty (.i .i64)), (7, .ty (.i .i64))], roots := [(4, .ty (.st (.pr (.i .i64) (.pr (.i .i64) (.sl .u8)))))] })]
noncomputable def st60_0 (ih : ((List UInt8 × Int × Int × Int) × (Int × Int × List UInt8)) → Option (((List UInt8 × Int × Int × Int) × (Int × Int × List UInt8)) ⊕ (((Int × Int × List UInt8) × Int)))) : ((List UInt8 × Int × Int × Int) × (Int × Int × List UInt8)) → Option (((List UInt8 × Int × Int × Int) × (Int × Int × List UInt8)) ⊕ (((Int × Int × List UInt8) × Int))) := fun ((t0, t1, t6, t7), (r4_0, r4_1, r4_2)) =>
  cond (decide (t6 < (↑t0.length : Int)))
    (Option.bind (g30 t0 t6) fun v1 =>
    cond (v1.2.2 != 0)
      (some (Sum.inl ((t0, t1, t6, t7), r4_0, r4_1, r4_2)))
      (cond (decide (v1.2.1 > 65536))
        (some (Sum.inl ((t0, t1, t6, t7), r4_0, r4_1, r4_2)))
        (cond (decide (t1 < 0))
          (some (Sum.inl ((t0, t1, t6, t7), r4_0, r4_1, r4_2)))
          (cond (decide (t1 > 1099511627776))
            (some (Sum.inl ((t0, t1, t6, t7), r4_0, r4_1, r4_2)))
            (cond (v1.1.1 != IntKind.i64.wrap (t1 + t7))
              (some (Sum.inl ((t0, t1, t6, t7), r4_0, r4_1, r4_2)))
              (ih ((t0, t1, v1.2.1, IntKind.i64.wrap (t7 + 1)), r4_0, r4_1, r4_2)))))))
    (some (Sum.inl ((t0, t1, t6, t7), r4_0, r4_1, r4_2)))
noncomputable def h60_0 : ((List UInt8 × Int × Int × Int) × (Int × Int × List UInt8)) → Option (((List UInt8 × Int × Int × Int) × (Int × Int × List UInt8)) ⊕ (((Int × Int × List UInt8) × Int))) := loopN st60_0 fuel
noncomputable def l60_0 : LI D60 := ⟨ns60_0, ex60_0, h60_0⟩
noncomputable def lv60 : Nat → Option (LI D60) := fun q => if q = 3 then some l60_0 else (fun _ => none) q
noncomputable def g60 (a0 : List UInt8) (a1 : Int) : Option ((Int × Int × List UInt8) × Int) :=
  Option.bind (h60_0 ((a0, a1, 0, 0), 0, 0, [])) fun v1 =>
  match v1 with
  | .inl x2 =>
    cond (decide (0 ≤ x2.1.2.2.1) && decide (x2.1.2.2.1 ≤ (↑(List.length x2.1.1) : Int)) && true)
      (cond (decide (0 + (List.drop 0 (List.take (Int.toNat x2.1.2.2.1) x2.1.1)).length ≤ 2147483647))
        (some (((x2.1.2.1, IntKind.i64.wrap (x2.1.2.1 + x2.1.2.2.2), [] ++ List.drop 0 (List.take (Int.toNat x2.1.2.2.1) x2.1.1)), x2.1.2.2.1)))
        (none))
      (none)
  | .inr x2 =>
    some (x2)
noncomputable def i60 : FI := ⟨ps60, .tup (.pr (.ty (.st (.pr (.i .i64) (.pr (.i .i64) (.sl .u8))))) (.ty (.i .i64))), fun (a0, a1) => g60 a0 a1⟩
theorem s60_0 : st60_0 = stepEval T Y env60 an lv60 (finO T true ps60 (.tup (.pr (.ty (.st (.pr (.i .i64) (.pr (.i .i64) (.sl .u8))))) (.ty (.i .i64)))) Try.f60.results.toList) (loopAt c60 0) ns60_0 ex60_0 := by kernel_rfl
theorem e60 : (fun a => i60.G a) = fnEval T Y env60 an i60.ps i60.rs true Try.f60.results.toList lv60 c60 := by kernel_rfl
theorem lo60 : loopsOf c60 = [loopAt c60 0] := by kernel_rfl
theorem ll60 : LoopsOk T Y env60 an lv60 (finO T true ps60 (.tup (.pr (.ty (.st (.pr (.i .i64) (.pr (.i .i64) (.sl .u8))))) (.ty (.i .i64)))) Try.f60.results.toList) c60 := loopsOk_of (by rw [lo60]; exact ⟨loop1 (li := l60_0) (by kernel_rfl) (by kernel_rfl) s60_0, trivial⟩)
theorem k60 : FnOk Try.prog 60 i60 :=
  fn_ok (T := T) (Y := Y) (an := an) (env := env60) (fr := true) (lenv := lv60) mixed tok.1 tok.2 (envCons k30 (envNil)) (fn := Try.f60) (c := c60) (by kernel_rfl) (by kernel_rfl) (by kernel_rfl) ll60 (fun a => congrFun e60 a)
/-! ### broker/brokerref32.Same -/
noncomputable def c50 : Code := Try.f50.body.getD .skip
noncomputable def env50 : Env := mkEnv []
abbrev ps50 : List PSh := [.d (.st (.pr (.i .i64) (.pr (.i .i64) (.sl .u8)))), .d (.st (.pr (.i .i64) (.pr (.i .i64) (.sl .u8))))]
abbrev D50 : Type := pairD (.ty .b) (osOf ps50)
noncomputable def lv50 : Nat → Option (LI D50) := fun _ => none
noncomputable def g50 (a0_0 : Int) (a0_1 : Int) (a0_2 : List UInt8) (a1_0 : Int) (a1_1 : Int) (a1_2 : List UInt8) : Option (Bool) :=
  cond (a0_0 == a1_0)
    (cond (a0_1 == a1_1)
      (some (a0_2 == a1_2))
      (some (false)))
    (some (false))
noncomputable def i50 : FI := ⟨ps50, .ty .b, fun ((a0_0, a0_1, a0_2), (a1_0, a1_1, a1_2)) => g50 a0_0 a0_1 a0_2 a1_0 a1_1 a1_2⟩
theorem e50 : (fun a => i50.G a) = fnEval T Y env50 an i50.ps i50.rs true Try.f50.results.toList lv50 c50 := by kernel_rfl
theorem lo50 : loopsOf c50 = [] := by kernel_rfl
theorem ll50 : LoopsOk T Y env50 an lv50 (finO T true ps50 (.ty .b) Try.f50.results.toList) c50 := loopsOk_of (by rw [lo50]; exact trivial)
theorem k50 : FnOk Try.prog 50 i50 :=
  fn_ok (T := T) (Y := Y) (an := an) (env := env50) (fr := true) (lenv := lv50) mixed tok.1 tok.2 (envNil) (fn := Try.f50) (c := c50) (by kernel_rfl) (by kernel_rfl) (by kernel_rfl) ll50 (fun a => congrFun e50 a)
/-! ### broker/brokerlaw32.few -/
noncomputable def c61 : Code := Try.f61.body.getD .skip
noncomputable def env61 : Env := mkEnv []
abbrev ps61 : List PSh := [.d (.sl (.st (.pr (.i .i64) (.pr (.i .i64) (.pr .s .s)))))]
abbrev D61 : Type := pairD (.ty .b) (osOf ps61)
def ns61_0 : NS := { slots := [(0, .ty (.sl (.st (.pr (.i .i64) (.pr (.i .i64) (.pr .s .s)))))), (3, .ty (.i .i64))], roots := [] }
def ex61_0 : List (Nat × NS) := [(0, { slots := [], roots := [] })]
noncomputable def st61_0 (ih : (((List (Int × Int × List UInt8 × List UInt8)) × Int) × (Unit)) → Option (((Unit) × (Unit)) ⊕ Bool)) : (((List (Int × Int × List UInt8 × List UInt8)) × Int) × (Unit)) → Option (((Unit) × (Unit)) ⊕ Bool) := fun ((t0, t3), ()) =>
  cond (decide (t3 < (↑t0.length : Int)))
    (cond (decide (0 ≤ t3) && decide (t3 < (↑t0.length : Int)))
      (cond (decide ((↑(List.length (t0.getD t3.toNat (0, 0, [], [])).2.2.1) : Int) > 100))
        (some (Sum.inr false))
        (cond (decide (0 ≤ t3) && decide (t3 < (↑t0.length : Int)))
          (cond (decide ((↑(List.length (t0.getD t3.toNat (0, 0, [], [])).2.2.2) : Int) > 200))
            (some (Sum.inr false))
            (ih ((t0, IntKind.i64.wrap (t3 + 1)), ())))
          (none)))
      (none))
    (some (Sum.inl ((), ())))
noncomputable def h61_0 : (((List (Int × Int × List UInt8 × List UInt8)) × Int) × (Unit)) → Option (((Unit) × (Unit)) ⊕ Bool) := loopN st61_0 fuel
noncomputable def l61_0 : LI D61 := ⟨ns61_0, ex61_0, h61_0⟩
noncomputable def lv61 : Nat → Option (LI D61) := fun q => if q = 4 then some l61_0 else (fun _ => none) q
noncomputable def g61 (a0 : List (Int × Int × List UInt8 × List UInt8)) : Option (Bool) :=
  cond (decide ((↑a0.length : Int) > 16))
    (some (false))
    (Option.bind (h61_0 ((a0, 0), ())) fun v1 =>
    match v1 with
    | .inl x2 =>
      some (true)
    | .inr x2 =>
      some (x2))
noncomputable def i61 : FI := ⟨ps61, .ty .b, fun a0 => g61 a0⟩
theorem s61_0 : st61_0 = stepEval T Y env61 an lv61 (finO T true ps61 (.ty .b) Try.f61.results.toList) (loopAt c61 0) ns61_0 ex61_0 := by kernel_rfl
theorem e61 : (fun a => i61.G a) = fnEval T Y env61 an i61.ps i61.rs true Try.f61.results.toList lv61 c61 := by kernel_rfl
theorem lo61 : loopsOf c61 = [loopAt c61 0] := by kernel_rfl
theorem ll61 : LoopsOk T Y env61 an lv61 (finO T true ps61 (.ty .b) Try.f61.results.toList) c61 := loopsOk_of (by rw [lo61]; exact ⟨loop1 (li := l61_0) (by kernel_rfl) (by kernel_rfl) s61_0, trivial⟩)
theorem k61 : FnOk Try.prog 61 i61 :=
  fn_ok (T := T) (Y := Y) (an := an) (env := env61) (fr := true) (lenv := lv61) mixed tok.1 tok.2 (envNil) (fn := Try.f61) (c := c61) (by kernel_rfl) (by kernel_rfl) (by kernel_rfl) ll61 (fun a => congrFun e61 a)
/-! ### broker/brokerref32.Of -/
noncomputable def c62 : Code := Try.f62.body.getD .skip
noncomputable def env62 : Env := mkEnv [(52, i52), (54, i54)]
abbrev ps62 : List PSh := [.d (.i .i64), .d (.sl (.st (.pr (.i .i64) (.pr (.i .i64) (.pr .s .s)))))]
abbrev D62 : Type := pairD (.tup (.pr (.ty (.st (.pr (.i .i64) (.pr (.i .i64) (.sl .u8))))) (.ty (.i .i64)))) (osOf ps62)
def ns62_0 : NS := { slots := [(4, .pt 4 []), (6, .pt 6 []), (1, .ty (.sl (.st (.pr (.i .i64) (.pr (.i .i64) (.pr .s .s)))))), (7, .ty (.i .i64))], roots := [(6, .ty (.st (.pr (.i .i64) (.pr (.i .i64) (.sl .u8))))), (4, .ty (.st (.pr (.i .i64) (.pr (.i .i64) (.sl .u8)))))] }
def ex62_0 : List (Nat × NS) := [(0, { slots := [(4, .pt 4 []), (6, .pt 6 [])], roots := [(6, .ty (.st (.pr (.i .i64) (.pr (.i .i64) (.sl .u8))))), (4, .ty (.st (.pr (.i .i64) (.pr (.i .i64) (.sl .u8)))))] })]
noncomputable def st62_0 (ih : (((List (Int × Int × List UInt8 × List UInt8)) × Int) × ((Int × Int × List UInt8) × Int × Int × List UInt8)) → Option (((Unit) × ((Int × Int × List UInt8) × Int × Int × List UInt8)) ⊕ (((Int × Int × List UInt8) × Int)))) : (((List (Int × Int × List UInt8 × List UInt8)) × Int) × ((Int × Int × List UInt8) × Int × Int × List UInt8)) → Option (((Unit) × ((Int × Int × List UInt8) × Int × Int × List UInt8)) ⊕ (((Int × Int × List UInt8) × Int))) := fun ((t1, t7), ((r6_0, r6_1, r6_2), (r4_0, r4_1, r4_2))) =>
  cond (decide (t7 < (↑t1.length : Int)))
    (cond (decide (0 ≤ t7) && decide (t7 < (↑t1.length : Int)))
      (cond (decide (0 ≤ t7) && decide (t7 < (↑t1.length : Int)))
        (cond (decide (0 ≤ t7) && decide (t7 < (↑t1.length : Int)))
          (Option.bind (g54 r6_0 r6_1 r6_2 (t1.getD t7.toNat (0, 0, [], [])).2.1 (t1.getD t7.toNat (0, 0, [], [])).2.2.1 (t1.getD t7.toNat (0, 0, [], [])).2.2.2) fun v1 =>
          cond (v1.2.2 != 0)
            (some (Sum.inr ((0, 0, []), v1.2.2)))
            (ih ((t1, IntKind.i64.wrap (t7 + 1)), v1.1, r4_0, r4_1, r4_2)))
          (none))
        (none))
      (none))
    (some (Sum.inl ((), (r6_0, r6_1, r6_2), r4_0, r4_1, r4_2)))
noncomputable def h62_0 : (((List (Int × Int × List UInt8 × List UInt8)) × Int) × ((Int × Int × List UInt8) × Int × Int × List UInt8)) → Option (((Unit) × ((Int × Int × List UInt8) × Int × Int × List UInt8)) ⊕ (((Int × Int × List UInt8) × Int))) := loopN st62_0 fuel
noncomputable def l62_0 : LI D62 := ⟨ns62_0, ex62_0, h62_0⟩
noncomputable def lv62 : Nat → Option (LI D62) := fun q => if q = 3 then some l62_0 else (fun _ => none) q
noncomputable def g62 (a0 : Int) (a1 : List (Int × Int × List UInt8 × List UInt8)) : Option ((Int × Int × List UInt8) × Int) :=
  Option.bind (g52 a0) fun v1 =>
  Option.bind (h62_0 ((a1, 0), v1, 0, 0, [])) fun v2 =>
  match v2 with
  | .inl x3 =>
    some ((x3.2.1, 0))
  | .inr x3 =>
    some (x3)
noncomputable def i62 : FI := ⟨ps62, .tup (.pr (.ty (.st (.pr (.i .i64) (.pr (.i .i64) (.sl .u8))))) (.ty (.i .i64))), fun (a0, a1) => g62 a0 a1⟩
theorem s62_0 : st62_0 = stepEval T Y env62 an lv62 (finO T true ps62 (.tup (.pr (.ty (.st (.pr (.i .i64) (.pr (.i .i64) (.sl .u8))))) (.ty (.i .i64)))) Try.f62.results.toList) (loopAt c62 0) ns62_0 ex62_0 := by kernel_rfl
theorem e62 : (fun a => i62.G a) = fnEval T Y env62 an i62.ps i62.rs true Try.f62.results.toList lv62 c62 := by kernel_rfl
theorem lo62 : loopsOf c62 = [loopAt c62 0] := by kernel_rfl
theorem ll62 : LoopsOk T Y env62 an lv62 (finO T true ps62 (.tup (.pr (.ty (.st (.pr (.i .i64) (.pr (.i .i64) (.sl .u8))))) (.ty (.i .i64)))) Try.f62.results.toList) c62 := loopsOk_of (by rw [lo62]; exact ⟨loop1 (li := l62_0) (by kernel_rfl) (by kernel_rfl) s62_0, trivial⟩)
theorem k62 : FnOk Try.prog 62 i62 :=
  fn_ok (T := T) (Y := Y) (an := an) (env := env62) (fr := true) (lenv := lv62) mixed tok.1 tok.2 (envCons k52 (envCons k54 (envNil))) (fn := Try.f62) (c := c62) (by kernel_rfl) (by kernel_rfl) (by kernel_rfl) ll62 (fun a => congrFun e62 a)
/-! ### broker/brokerlaw32.awake -/
noncomputable def c47 : Code := Try.f47.body.getD .skip
noncomputable def env47 : Env := mkEnv [(51, i51), (53, i53), (59, i59), (55, i55), (48, i48), (50, i50), (57, i57)]
abbrev ps47 : List PSh := []
abbrev D47 : Type := pairD (.ty .b) (osOf ps47)
noncomputable def lv47 : Nat → Option (LI D47) := fun _ => none
noncomputable def g47 : Option (Bool) :=
  Option.bind (g51 5) fun v1 =>
  Option.bind (g53 v1.1 v1.2.1 v1.2.2 1 [97] [118]) fun v2 =>
  Option.bind (g59 v2.1.2.2 5) fun v3 =>
  Option.bind (g55 v2.1.1 v2.1.2.1 v2.1.2.2) fun v4 =>
  cond (v2.2.1 == 5)
    (cond (v2.2.2 == 0)
      (cond (v2.1.1 == 5)
        (cond (v2.1.2.1 == 6)
          (cond ((↑(List.length v2.1.2.2) : Int) == 11)
            (Option.bind (g48 v2.1.1 v2.1.2.1 v2.1.2.2) fun v5 =>
            cond (v5 == 0)
              (Option.bind (g50 v3.1.1 v3.1.2.1 v3.1.2.2 v2.1.1 v2.1.2.1 v2.1.2.2) fun v6 =>
              cond (v6)
                (cond (v3.2 == 11)
                  (cond ((↑(List.length v4) : Int) == 1)
                    (cond (decide (0 ≤ 0) && decide (0 < (↑(List.length v4) : Int)))
                      (cond ((List.getD v4 (Int.toNat 0) (0, 0, [], [])).1 == 5 && ((List.getD v4 (Int.toNat 0) (0, 0, [], [])).2.1 == 1 && ((List.getD v4 (Int.toNat 0) (0, 0, [], [])).2.2.1 == [97] && ((List.getD v4 (Int.toNat 0) (0, 0, [], [])).2.2.2 == [118] && true))))
                        (Option.bind (g57 v2.1.1 v2.1.2.1 v2.1.2.2 5) fun v7 =>
                        some (v7.2.1 == 5))
                        (some (false)))
                      (none))
                    (some (false)))
                  (some (false)))
                (some (false)))
              (some (false)))
            (some (false)))
          (some (false)))
        (some (false)))
      (some (false)))
    (some (false))
noncomputable def i47 : FI := ⟨ps47, .ty .b, fun _ => g47⟩
theorem e47 : (fun a => i47.G a) = fnEval T Y env47 an i47.ps i47.rs true Try.f47.results.toList lv47 c47 := by kernel_rfl
theorem lo47 : loopsOf c47 = [] := by kernel_rfl
theorem ll47 : LoopsOk T Y env47 an lv47 (finO T true ps47 (.ty .b) Try.f47.results.toList) c47 := loopsOk_of (by rw [lo47]; exact trivial)
theorem k47 : FnOk Try.prog 47 i47 :=
  fn_ok (T := T) (Y := Y) (an := an) (env := env47) (fr := true) (lenv := lv47) mixed tok.1 tok.2 (envCons k51 (envCons k53 (envCons k59 (envCons k55 (envCons k48 (envCons k50 (envCons k57 (envNil)))))))) (fn := Try.f47) (c := c47) (by kernel_rfl) (by kernel_rfl) (by kernel_rfl) ll47 (fun a => congrFun e47 a)
end Go.Proofs.Ytkkelbakadbbhaa.EVT
