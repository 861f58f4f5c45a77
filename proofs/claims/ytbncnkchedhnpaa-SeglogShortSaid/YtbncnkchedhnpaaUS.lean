/- What functions compute, as printed (U, part S). -/
import Derived.Test.YtbncnkchedhnpaaUB
set_option linter.unusedVariables false
set_option maxRecDepth 100000
set_option maxHeartbeats 0
namespace Go.Proofs.Ytbncnkchedhnpaa.EVT
open Go Go.EV
/-! ### broker/segment.New -/
noncomputable def c27 : Code := Try.f27.body.getD .skip
noncomputable def env27 : Env := mkEnv []
abbrev ps27 : List PSh := [.d (.i .i64)]
abbrev D27 : Type := pairD (.ty (.st (.pr (.i .i64) (.pr (.i .i64) (.sl .u8))))) (osOf ps27)
noncomputable def lv27 : Nat → Option (LI D27) := fun _ => none
noncomputable def g27 (a0 : Int) : Option (Int × Int × List UInt8) :=
  some ((a0, a0, []))
noncomputable def i27 : FI := ⟨ps27, .ty (.st (.pr (.i .i64) (.pr (.i .i64) (.sl .u8)))), fun a0 => g27 a0⟩
theorem e27 : (fun a => i27.G a) = fnEval T Y env27 an i27.ps i27.rs true Try.f27.results.toList lv27 c27 := by kernel_rfl
theorem lo27 : loopsOf c27 = [] := by kernel_rfl
theorem ll27 : LoopsOk T Y env27 an lv27 (finO T true ps27 (.ty (.st (.pr (.i .i64) (.pr (.i .i64) (.sl .u8))))) Try.f27.results.toList) c27 := loopsOk_of (by rw [lo27]; exact trivial)
theorem k27 : FnOk Try.prog 27 i27 :=
  fn_ok (T := T) (Y := Y) (an := an) (env := env27) (fr := true) (lenv := lv27) mixed tok.1 tok.2 (envNil) (fn := Try.f27) (c := c27) (by kernel_rfl) (by kernel_rfl) (by kernel_rfl) ll27 (fun a => congrFun e27 a)
/-! ### broker/segment.owned -/
noncomputable def c48 : Code := Try.f48.body.getD .skip
noncomputable def env48 : Env := mkEnv []
abbrev ps48 : List PSh := [.d (.sl .u8), .d (.sl .u8)]
abbrev D48 : Type := pairD (.ty (.sl .u8)) (osOf ps48)
noncomputable def lv48 : Nat → Option (LI D48) := fun _ => none
noncomputable def g48 (a0 : List UInt8) (a1 : List UInt8) : Option (List UInt8) :=
  cond (decide (0 ≤ IntKind.i64.wrap ((↑a0.length : Int) + (↑a1.length : Int))) && decide (IntKind.i64.wrap ((↑a0.length : Int) + (↑a1.length : Int)) ≤ IntKind.i64.wrap ((↑a0.length : Int) + (↑a1.length : Int))) && decide (IntKind.i64.wrap ((↑a0.length : Int) + (↑a1.length : Int)) ≤ 2147483647))
    (cond (decide (0 + (List.replicate (IntKind.i64.wrap ((↑a0.length : Int) + (↑a1.length : Int))).toNat (UInt8.ofNat (Int.toNat 0))).length ≤ (List.replicate (IntKind.i64.wrap ((↑a0.length : Int) + (↑a1.length : Int))).toNat (UInt8.ofNat (Int.toNat 0))).length))
      (cond (decide (0 ≤ (↑a0.length : Int)) && decide ((↑a0.length : Int) ≤ (↑(List.take 0 (List.replicate (IntKind.i64.wrap ((↑a0.length : Int) + (↑a1.length : Int))).toNat (UInt8.ofNat (Int.toNat 0))) ++ (List.take (List.replicate (IntKind.i64.wrap ((↑a0.length : Int) + (↑a1.length : Int))).toNat (UInt8.ofNat (Int.toNat 0))).length a0 ++ List.drop (0 + (List.take (List.replicate (IntKind.i64.wrap ((↑a0.length : Int) + (↑a1.length : Int))).toNat (UInt8.ofNat (Int.toNat 0))).length a0).length) (List.replicate (IntKind.i64.wrap ((↑a0.length : Int) + (↑a1.length : Int))).toNat (UInt8.ofNat (Int.toNat 0))))).length : Int)) && true)
        (cond (decide ((↑a0.length : Int).toNat + ((List.take 0 (List.replicate (IntKind.i64.wrap ((↑a0.length : Int) + (↑a1.length : Int))).toNat (UInt8.ofNat (Int.toNat 0))) ++ (List.take (List.replicate (IntKind.i64.wrap ((↑a0.length : Int) + (↑a1.length : Int))).toNat (UInt8.ofNat (Int.toNat 0))).length a0 ++ List.drop (0 + (List.take (List.replicate (IntKind.i64.wrap ((↑a0.length : Int) + (↑a1.length : Int))).toNat (UInt8.ofNat (Int.toNat 0))).length a0).length) (List.replicate (IntKind.i64.wrap ((↑a0.length : Int) + (↑a1.length : Int))).toNat (UInt8.ofNat (Int.toNat 0))))).length - (↑a0.length : Int).toNat) ≤ (List.take 0 (List.replicate (IntKind.i64.wrap ((↑a0.length : Int) + (↑a1.length : Int))).toNat (UInt8.ofNat (Int.toNat 0))) ++ (List.take (List.replicate (IntKind.i64.wrap ((↑a0.length : Int) + (↑a1.length : Int))).toNat (UInt8.ofNat (Int.toNat 0))).length a0 ++ List.drop (0 + (List.take (List.replicate (IntKind.i64.wrap ((↑a0.length : Int) + (↑a1.length : Int))).toNat (UInt8.ofNat (Int.toNat 0))).length a0).length) (List.replicate (IntKind.i64.wrap ((↑a0.length : Int) + (↑a1.length : Int))).toNat (UInt8.ofNat (Int.toNat 0))))).length))
          (some (List.take (↑a0.length : Int).toNat (List.take 0 (List.replicate (IntKind.i64.wrap ((↑a0.length : Int) + (↑a1.length : Int))).toNat (UInt8.ofNat (Int.toNat 0))) ++ (List.take (List.replicate (IntKind.i64.wrap ((↑a0.length : Int) + (↑a1.length : Int))).toNat (UInt8.ofNat (Int.toNat 0))).length a0 ++ List.drop (0 + (List.take (List.replicate (IntKind.i64.wrap ((↑a0.length : Int) + (↑a1.length : Int))).toNat (UInt8.ofNat (Int.toNat 0))).length a0).length) (List.replicate (IntKind.i64.wrap ((↑a0.length : Int) + (↑a1.length : Int))).toNat (UInt8.ofNat (Int.toNat 0))))) ++ (List.take ((List.take 0 (List.replicate (IntKind.i64.wrap ((↑a0.length : Int) + (↑a1.length : Int))).toNat (UInt8.ofNat (Int.toNat 0))) ++ (List.take (List.replicate (IntKind.i64.wrap ((↑a0.length : Int) + (↑a1.length : Int))).toNat (UInt8.ofNat (Int.toNat 0))).length a0 ++ List.drop (0 + (List.take (List.replicate (IntKind.i64.wrap ((↑a0.length : Int) + (↑a1.length : Int))).toNat (UInt8.ofNat (Int.toNat 0))).length a0).length) (List.replicate (IntKind.i64.wrap ((↑a0.length : Int) + (↑a1.length : Int))).toNat (UInt8.ofNat (Int.toNat 0))))).length - (↑a0.length : Int).toNat) a1 ++ List.drop ((↑a0.length : Int).toNat + (List.take ((List.take 0 (List.replicate (IntKind.i64.wrap ((↑a0.length : Int) + (↑a1.length : Int))).toNat (UInt8.ofNat (Int.toNat 0))) ++ (List.take (List.replicate (IntKind.i64.wrap ((↑a0.length : Int) + (↑a1.length : Int))).toNat (UInt8.ofNat (Int.toNat 0))).length a0 ++ List.drop (0 + (List.take (List.replicate (IntKind.i64.wrap ((↑a0.length : Int) + (↑a1.length : Int))).toNat (UInt8.ofNat (Int.toNat 0))).length a0).length) (List.replicate (IntKind.i64.wrap ((↑a0.length : Int) + (↑a1.length : Int))).toNat (UInt8.ofNat (Int.toNat 0))))).length - (↑a0.length : Int).toNat) a1).length) (List.take 0 (List.replicate (IntKind.i64.wrap ((↑a0.length : Int) + (↑a1.length : Int))).toNat (UInt8.ofNat (Int.toNat 0))) ++ (List.take (List.replicate (IntKind.i64.wrap ((↑a0.length : Int) + (↑a1.length : Int))).toNat (UInt8.ofNat (Int.toNat 0))).length a0 ++ List.drop (0 + (List.take (List.replicate (IntKind.i64.wrap ((↑a0.length : Int) + (↑a1.length : Int))).toNat (UInt8.ofNat (Int.toNat 0))).length a0).length) (List.replicate (IntKind.i64.wrap ((↑a0.length : Int) + (↑a1.length : Int))).toNat (UInt8.ofNat (Int.toNat 0))))))))
          (none))
        (none))
      (none))
    (none)
noncomputable def i48 : FI := ⟨ps48, .ty (.sl .u8), fun (a0, a1) => g48 a0 a1⟩
theorem e48 : (fun a => i48.G a) = fnEval T Y env48 an i48.ps i48.rs true Try.f48.results.toList lv48 c48 := by kernel_rfl
theorem lo48 : loopsOf c48 = [] := by kernel_rfl
theorem ll48 : LoopsOk T Y env48 an lv48 (finO T true ps48 (.ty (.sl .u8)) Try.f48.results.toList) c48 := loopsOk_of (by rw [lo48]; exact trivial)
theorem k48 : FnOk Try.prog 48 i48 :=
  fn_ok (T := T) (Y := Y) (an := an) (env := env48) (fr := true) (lenv := lv48) mixed tok.1 tok.2 (envNil) (fn := Try.f48) (c := c48) (by kernel_rfl) (by kernel_rfl) (by kernel_rfl) ll48 (fun a => congrFun e48 a)
/-! ### broker/segment.Append -/
noncomputable def c31 : Code := Try.f31.body.getD .skip
noncomputable def env31 : Env := mkEnv [(47, i47), (48, i48)]
abbrev ps31 : List PSh := [.d (.st (.pr (.i .i64) (.pr (.i .i64) (.sl .u8)))), .d (.i .i64), .d .s, .d .s]
abbrev D31 : Type := pairD (.tup (.pr (.ty (.st (.pr (.i .i64) (.pr (.i .i64) (.sl .u8))))) (.pr (.ty (.i .i64)) (.ty (.i .i64))))) (osOf ps31)
noncomputable def lv31 : Nat → Option (LI D31) := fun _ => none
noncomputable def g31 (a0_0 : Int) (a0_1 : Int) (a0_2 : List UInt8) (a1 : Int) (a2 : List UInt8) (a3 : List UInt8) : Option ((Int × Int × List UInt8) × Int × Int) :=
  Option.bind (g47 a0_1 a1 a2 a3) fun v1 =>
  cond (v1.2 != 0)
    (some (((0, 0, []), 0, v1.2)))
    (cond (decide (IntKind.i64.wrap ((↑a0_2.length : Int) + (↑(List.length v1.1) : Int)) > 65536))
      (some (((0, 0, []), 0, 6)))
      (Option.bind (g48 a0_2 v1.1) fun v2 =>
      some (((a0_0, IntKind.i64.wrap (a0_1 + 1), v2), a0_1, 0))))
noncomputable def i31 : FI := ⟨ps31, .tup (.pr (.ty (.st (.pr (.i .i64) (.pr (.i .i64) (.sl .u8))))) (.pr (.ty (.i .i64)) (.ty (.i .i64)))), fun ((a0_0, a0_1, a0_2), a1, a2, a3) => g31 a0_0 a0_1 a0_2 a1 a2 a3⟩
theorem e31 : (fun a => i31.G a) = fnEval T Y env31 an i31.ps i31.rs true Try.f31.results.toList lv31 c31 := by kernel_rfl
theorem lo31 : loopsOf c31 = [] := by kernel_rfl
theorem ll31 : LoopsOk T Y env31 an lv31 (finO T true ps31 (.tup (.pr (.ty (.st (.pr (.i .i64) (.pr (.i .i64) (.sl .u8))))) (.pr (.ty (.i .i64)) (.ty (.i .i64))))) Try.f31.results.toList) c31 := loopsOk_of (by rw [lo31]; exact trivial)
theorem k31 : FnOk Try.prog 31 i31 :=
  fn_ok (T := T) (Y := Y) (an := an) (env := env31) (fr := true) (lenv := lv31) mixed tok.1 tok.2 (envCons k47 (envCons k48 (envNil))) (fn := Try.f31) (c := c31) (by kernel_rfl) (by kernel_rfl) (by kernel_rfl) ll31 (fun a => congrFun e31 a)
/-! ### broker/segment.Check -/
noncomputable def c44 : Code := Try.f44.body.getD .skip
noncomputable def env44 : Env := mkEnv [(50, i50)]
abbrev ps44 : List PSh := [.d (.st (.pr (.i .i64) (.pr (.i .i64) (.sl .u8))))]
abbrev D44 : Type := pairD (.ty (.i .i64)) (osOf ps44)
def ns44_0 : NS := { slots := [(1, .pt 1 []), (3, .ty (.i .i64)), (4, .ty (.i .i64))], roots := [(1, .ty (.st (.pr (.i .i64) (.pr (.i .i64) (.sl .u8)))))] }
def ex44_0 : List (Nat × NS) := [(0, { slots := [(1, .pt 1 []), (3, .ty (.i .i64))], roots := [(1, .ty (.st (.pr (.i .i64) (.pr (.i .i64) (.sl .u8)))))] })]
noncomputable def st44_0 (ih : ((Int × Int) × (Int × Int × List UInt8)) → Option (((Int) × (Int × Int × List UInt8)) ⊕ Int)) : ((Int × Int) × (Int × Int × List UInt8)) → Option (((Int) × (Int × Int × List UInt8)) ⊕ Int) := fun ((t3, t4), (r1_0, r1_1, r1_2)) =>
  cond (decide (t4 < (↑r1_2.length : Int)))
    (Option.bind (g50 r1_2 t4) fun v1 =>
    cond (v1.2.2 != 0)
      (some (Sum.inr v1.2.2))
      (cond (v1.1.1 != t3)
        (some (Sum.inr 22))
        (ih ((IntKind.i64.wrap (t3 + 1), v1.2.1), r1_0, r1_1, r1_2))))
    (some (Sum.inl (t3, r1_0, r1_1, r1_2)))
noncomputable def h44_0 : ((Int × Int) × (Int × Int × List UInt8)) → Option (((Int) × (Int × Int × List UInt8)) ⊕ Int) := loopN st44_0 fuel
noncomputable def l44_0 : LI D44 := ⟨ns44_0, ex44_0, h44_0⟩
noncomputable def lv44 : Nat → Option (LI D44) := fun q => if q = 7 then some l44_0 else (fun _ => none) q
noncomputable def g44 (a0_0 : Int) (a0_1 : Int) (a0_2 : List UInt8) : Option (Int) :=
  cond (decide (a0_0 < 0))
    (some (1))
    (cond (decide (a0_0 > 1099511627776))
      (some (1))
      (cond (decide ((↑a0_2.length : Int) > 65536))
        (some (5))
        (Option.bind (h44_0 ((a0_0, 0), a0_0, a0_1, a0_2)) fun v1 =>
        match v1 with
        | .inl x2 =>
          cond (x2.2.2.1 != x2.1)
            (some (1))
            (some (0))
        | .inr x2 =>
          some (x2))))
noncomputable def i44 : FI := ⟨ps44, .ty (.i .i64), fun (a0_0, a0_1, a0_2) => g44 a0_0 a0_1 a0_2⟩
theorem s44_0 : st44_0 = stepEval T Y env44 an lv44 (finO T true ps44 (.ty (.i .i64)) Try.f44.results.toList) (loopAt c44 0) ns44_0 ex44_0 := by kernel_rfl
theorem e44 : (fun a => i44.G a) = fnEval T Y env44 an i44.ps i44.rs true Try.f44.results.toList lv44 c44 := by kernel_rfl
theorem lo44 : loopsOf c44 = [loopAt c44 0] := by kernel_rfl
theorem ll44 : LoopsOk T Y env44 an lv44 (finO T true ps44 (.ty (.i .i64)) Try.f44.results.toList) c44 := loopsOk_of (by rw [lo44]; exact ⟨loop1 (li := l44_0) (by kernel_rfl) (by kernel_rfl) s44_0, trivial⟩)
theorem k44 : FnOk Try.prog 44 i44 :=
  fn_ok (T := T) (Y := Y) (an := an) (env := env44) (fr := true) (lenv := lv44) mixed tok.1 tok.2 (envCons k50 (envNil)) (fn := Try.f44) (c := c44) (by kernel_rfl) (by kernel_rfl) (by kernel_rfl) ll44 (fun a => congrFun e44 a)
/-! ### broker/segment.Truncate -/
noncomputable def c46 : Code := Try.f46.body.getD .skip
noncomputable def env46 : Env := mkEnv [(50, i50), (48, i48)]
abbrev ps46 : List PSh := [.d (.st (.pr (.i .i64) (.pr (.i .i64) (.sl .u8)))), .d (.i .i64)]
abbrev D46 : Type := pairD (.ty (.st (.pr (.i .i64) (.pr (.i .i64) (.sl .u8))))) (osOf ps46)
def ns46_0 : NS := { slots := [(2, .pt 2 []), (4, .pt 4 []), (1, .ty (.i .i64)), (5, .ty (.i .i64)), (6, .ty (.i .i64))], roots := [(4, .ty (.st (.pr (.i .i64) (.pr (.i .i64) (.sl .u8))))), (2, .ty (.st (.pr (.i .i64) (.pr (.i .i64) (.sl .u8)))))] }
def ex46_0 : List (Nat × NS) := [(0, { slots := [(2, .pt 2 []), (4, .pt 4 []), (5, .ty (.i .i64)), (6, .ty (.i .i64))], roots := [(4, .ty (.st (.pr (.i .i64) (.pr (.i .i64) (.sl .u8))))), (2, .ty (.st (.pr (.i .i64) (.pr (.i .i64) (.sl .u8)))))] })]
noncomputable def st46_0 (ih : ((Int × Int × Int) × ((Int × Int × List UInt8) × Int × Int × List UInt8)) → Option (((Int × Int) × ((Int × Int × List UInt8) × Int × Int × List UInt8)) ⊕ ((Int × Int × List UInt8)))) : ((Int × Int × Int) × ((Int × Int × List UInt8) × Int × Int × List UInt8)) → Option (((Int × Int) × ((Int × Int × List UInt8) × Int × Int × List UInt8)) ⊕ ((Int × Int × List UInt8))) := fun ((t1, t5, t6), ((r4_0, r4_1, r4_2), (r2_0, r2_1, r2_2))) =>
  cond (decide (t6 < (↑r2_2.length : Int)))
    (cond (decide (t5 < t1))
      (Option.bind (g50 r2_2 t6) fun v1 =>
      cond (v1.2.2 != 0)
        (some (Sum.inl ((t5, t6), (r4_0, r4_1, r4_2), r2_0, r2_1, r2_2)))
        (ih ((t1, IntKind.i64.wrap (t5 + 1), v1.2.1), (r4_0, r4_1, r4_2), r2_0, r2_1, r2_2)))
      (some (Sum.inl ((t5, t6), (r4_0, r4_1, r4_2), r2_0, r2_1, r2_2))))
    (some (Sum.inl ((t5, t6), (r4_0, r4_1, r4_2), r2_0, r2_1, r2_2)))
noncomputable def h46_0 : ((Int × Int × Int) × ((Int × Int × List UInt8) × Int × Int × List UInt8)) → Option (((Int × Int) × ((Int × Int × List UInt8) × Int × Int × List UInt8)) ⊕ ((Int × Int × List UInt8))) := loopN st46_0 fuel
noncomputable def l46_0 : LI D46 := ⟨ns46_0, ex46_0, h46_0⟩
noncomputable def lv46 : Nat → Option (LI D46) := fun q => if q = 2 then some l46_0 else (fun _ => none) q
noncomputable def g46 (a0_0 : Int) (a0_1 : Int) (a0_2 : List UInt8) (a1 : Int) : Option (Int × Int × List UInt8) :=
  Option.bind (h46_0 ((a1, a0_0, 0), (0, 0, []), a0_0, a0_1, a0_2)) fun v1 =>
  match v1 with
  | .inl x2 =>
    cond (decide (0 ≤ x2.1.2) && decide (x2.1.2 ≤ (↑(List.length x2.2.2.2.2) : Int)) && true)
      (Option.bind (g48 (List.drop 0 (List.take (Int.toNat x2.1.2) x2.2.2.2.2)) []) fun v3 =>
      some ((x2.2.2.1, x2.1.1, v3)))
      (none)
  | .inr x2 =>
    some (x2)
noncomputable def i46 : FI := ⟨ps46, .ty (.st (.pr (.i .i64) (.pr (.i .i64) (.sl .u8)))), fun ((a0_0, a0_1, a0_2), a1) => g46 a0_0 a0_1 a0_2 a1⟩
theorem s46_0 : st46_0 = stepEval T Y env46 an lv46 (finO T true ps46 (.ty (.st (.pr (.i .i64) (.pr (.i .i64) (.sl .u8))))) Try.f46.results.toList) (loopAt c46 0) ns46_0 ex46_0 := by kernel_rfl
theorem e46 : (fun a => i46.G a) = fnEval T Y env46 an i46.ps i46.rs true Try.f46.results.toList lv46 c46 := by kernel_rfl
theorem lo46 : loopsOf c46 = [loopAt c46 0] := by kernel_rfl
theorem ll46 : LoopsOk T Y env46 an lv46 (finO T true ps46 (.ty (.st (.pr (.i .i64) (.pr (.i .i64) (.sl .u8))))) Try.f46.results.toList) c46 := loopsOk_of (by rw [lo46]; exact ⟨loop1 (li := l46_0) (by kernel_rfl) (by kernel_rfl) s46_0, trivial⟩)
theorem k46 : FnOk Try.prog 46 i46 :=
  fn_ok (T := T) (Y := Y) (an := an) (env := env46) (fr := true) (lenv := lv46) mixed tok.1 tok.2 (envCons k50 (envCons k48 (envNil))) (fn := Try.f46) (c := c46) (by kernel_rfl) (by kernel_rfl) (by kernel_rfl) ll46 (fun a => congrFun e46 a)
/-! ### broker/brokerref32.New -/
noncomputable def c37 : Code := Try.f37.body.getD .skip
noncomputable def env37 : Env := mkEnv []
abbrev ps37 : List PSh := [.d (.i .i64)]
abbrev D37 : Type := pairD (.ty (.st (.pr (.i .i64) (.pr (.i .i64) (.sl .u8))))) (osOf ps37)
noncomputable def lv37 : Nat → Option (LI D37) := fun _ => none
noncomputable def g37 (a0 : Int) : Option (Int × Int × List UInt8) :=
  some ((a0, a0, []))
noncomputable def i37 : FI := ⟨ps37, .ty (.st (.pr (.i .i64) (.pr (.i .i64) (.sl .u8)))), fun a0 => g37 a0⟩
theorem e37 : (fun a => i37.G a) = fnEval T Y env37 an i37.ps i37.rs true Try.f37.results.toList lv37 c37 := by kernel_rfl
theorem lo37 : loopsOf c37 = [] := by kernel_rfl
theorem ll37 : LoopsOk T Y env37 an lv37 (finO T true ps37 (.ty (.st (.pr (.i .i64) (.pr (.i .i64) (.sl .u8))))) Try.f37.results.toList) c37 := loopsOk_of (by rw [lo37]; exact trivial)
theorem k37 : FnOk Try.prog 37 i37 :=
  fn_ok (T := T) (Y := Y) (an := an) (env := env37) (fr := true) (lenv := lv37) mixed tok.1 tok.2 (envNil) (fn := Try.f37) (c := c37) (by kernel_rfl) (by kernel_rfl) (by kernel_rfl) ll37 (fun a => congrFun e37 a)
/-! ### broker/brokerref32.Check -/
noncomputable def c17 : Code := Try.f17.body.getD .skip
noncomputable def env17 : Env := mkEnv [(35, i35)]
abbrev ps17 : List PSh := [.d (.st (.pr (.i .i64) (.pr (.i .i64) (.sl .u8))))]
abbrev D17 : Type := pairD (.ty (.i .i64)) (osOf ps17)
def ns17_0 : NS := { slots := [(1, .pt 1 []), (3, .ty (.i .i64)), (4, .ty (.i .i64))], roots := [(1, .ty (.st (.pr (.i .i64) (.pr (.i .i64) (.sl .u8)))))] }
def ex17_0 : List (Nat × NS) := [(0, { slots := [(1, .pt 1 []), (4, .ty (.i .i64))], roots := [(1, .ty (.st (.pr (.i .i64) (.pr (.i .i64) (.sl .u8)))))] })]
noncomputable def st17_0 (ih : ((Int × Int) × (Int × Int × List UInt8)) → Option (((Int) × (Int × Int × List UInt8)) ⊕ Int)) : ((Int × Int) × (Int × Int × List UInt8)) → Option (((Int) × (Int × Int × List UInt8)) ⊕ Int) := fun ((t3, t4), (r1_0, r1_1, r1_2)) =>
  cond (decide (t3 < (↑r1_2.length : Int)))
    (Option.bind (g35 r1_2 t3) fun v1 =>
    cond (v1.2.2 != 0)
      (some (Sum.inr v1.2.2))
      (cond (v1.1.1 != IntKind.i64.wrap (r1_0 + t4))
        (some (Sum.inr 22))
        (ih ((v1.2.1, IntKind.i64.wrap (t4 + 1)), r1_0, r1_1, r1_2))))
    (some (Sum.inl (t4, r1_0, r1_1, r1_2)))
noncomputable def h17_0 : ((Int × Int) × (Int × Int × List UInt8)) → Option (((Int) × (Int × Int × List UInt8)) ⊕ Int) := loopN st17_0 fuel
noncomputable def l17_0 : LI D17 := ⟨ns17_0, ex17_0, h17_0⟩
noncomputable def lv17 : Nat → Option (LI D17) := fun q => if q = 7 then some l17_0 else (fun _ => none) q
noncomputable def g17 (a0_0 : Int) (a0_1 : Int) (a0_2 : List UInt8) : Option (Int) :=
  cond (decide (a0_0 < 0))
    (some (1))
    (cond (decide (a0_0 > 1099511627776))
      (some (1))
      (cond (decide ((↑a0_2.length : Int) > 65536))
        (some (5))
        (Option.bind (h17_0 ((0, 0), a0_0, a0_1, a0_2)) fun v1 =>
        match v1 with
        | .inl x2 =>
          cond (x2.2.2.1 != IntKind.i64.wrap (x2.2.1 + x2.1))
            (some (1))
            (some (0))
        | .inr x2 =>
          some (x2))))
noncomputable def i17 : FI := ⟨ps17, .ty (.i .i64), fun (a0_0, a0_1, a0_2) => g17 a0_0 a0_1 a0_2⟩
theorem s17_0 : st17_0 = stepEval T Y env17 an lv17 (finO T true ps17 (.ty (.i .i64)) Try.f17.results.toList) (loopAt c17 0) ns17_0 ex17_0 := by kernel_rfl
theorem e17 : (fun a => i17.G a) = fnEval T Y env17 an i17.ps i17.rs true Try.f17.results.toList lv17 c17 := by kernel_rfl
theorem lo17 : loopsOf c17 = [loopAt c17 0] := by kernel_rfl
theorem ll17 : LoopsOk T Y env17 an lv17 (finO T true ps17 (.ty (.i .i64)) Try.f17.results.toList) c17 := loopsOk_of (by rw [lo17]; exact ⟨loop1 (li := l17_0) (by kernel_rfl) (by kernel_rfl) s17_0, trivial⟩)
theorem k17 : FnOk Try.prog 17 i17 :=
  fn_ok (T := T) (Y := Y) (an := an) (env := env17) (fr := true) (lenv := lv17) mixed tok.1 tok.2 (envCons k35 (envNil)) (fn := Try.f17) (c := c17) (by kernel_rfl) (by kernel_rfl) (by kernel_rfl) ll17 (fun a => congrFun e17 a)
/-! ### broker/brokerref32.Records -/
noncomputable def c18 : Code := Try.f18.body.getD .skip
noncomputable def env18 : Env := mkEnv [(35, i35)]
abbrev ps18 : List PSh := [.d (.st (.pr (.i .i64) (.pr (.i .i64) (.sl .u8))))]
abbrev D18 : Type := pairD (.ty (.sl (.st (.pr (.i .i64) (.pr (.i .i64) (.pr .s .s)))))) (osOf ps18)
def ns18_0 : NS := { slots := [(1, .pt 1 []), (3, .hw 27), (4, .ty (.i .i64))], roots := [(27, .ar 4 (.st (.pr (.i .i64) (.pr (.i .i64) (.pr .s .s))))), (1, .ty (.st (.pr (.i .i64) (.pr (.i .i64) (.sl .u8)))))], ad := [{ t := 3, path := [], g := 27, d := 4, τ := (.st (.pr (.i .i64) (.pr (.i .i64) (.pr .s .s))) : Ty) }] }
def ex18_0 : List (Nat × NS) := [(0, { slots := [(3, .hw 27)], roots := [(27, .ar 4 (.st (.pr (.i .i64) (.pr (.i .i64) (.pr .s .s)))))] })]
noncomputable def st18_0 (ih : ((Int) × ((List (Int × Int × List UInt8 × List UInt8)) × Int × Int × List UInt8)) → Option (((Unit) × (List (Int × Int × List UInt8 × List UInt8))) ⊕ ((List (Int × Int × List UInt8 × List UInt8))))) : ((Int) × ((List (Int × Int × List UInt8 × List UInt8)) × Int × Int × List UInt8)) → Option (((Unit) × (List (Int × Int × List UInt8 × List UInt8))) ⊕ ((List (Int × Int × List UInt8 × List UInt8)))) := fun (t4, (r27, (r1_0, r1_1, r1_2))) =>
  cond (decide (t4 < (↑r1_2.length : Int)))
    (Option.bind (g35 r1_2 t4) fun v1 =>
    cond (v1.2.2 != 0)
      (some (Sum.inr r27))
      (cond (decide (r27.length + 1 ≤ 2147483647))
        (ih (v1.2.1, r27 ++ [v1.1], r1_0, r1_1, r1_2))
        (none)))
    (some (Sum.inl ((), r27)))
noncomputable def h18_0 : ((Int) × ((List (Int × Int × List UInt8 × List UInt8)) × Int × Int × List UInt8)) → Option (((Unit) × (List (Int × Int × List UInt8 × List UInt8))) ⊕ ((List (Int × Int × List UInt8 × List UInt8)))) := loopN st18_0 fuel
noncomputable def l18_0 : LI D18 := ⟨ns18_0, ex18_0, h18_0⟩
noncomputable def lv18 : Nat → Option (LI D18) := fun q => if q = 3 then some l18_0 else (fun _ => none) q
noncomputable def g18 (a0_0 : Int) (a0_1 : Int) (a0_2 : List UInt8) : Option (List (Int × Int × List UInt8 × List UInt8)) :=
  Option.bind (h18_0 (0, [], a0_0, a0_1, a0_2)) fun v1 =>
  match v1 with
  | .inl x2 =>
    some (x2.2)
  | .inr x2 =>
    some (x2)
noncomputable def i18 : FI := ⟨ps18, .ty (.sl (.st (.pr (.i .i64) (.pr (.i .i64) (.pr .s .s))))), fun (a0_0, a0_1, a0_2) => g18 a0_0 a0_1 a0_2⟩
theorem s18_0 : st18_0 = stepEval T Y env18 an lv18 (finO T true ps18 (.ty (.sl (.st (.pr (.i .i64) (.pr (.i .i64) (.pr .s .s)))))) Try.f18.results.toList) (loopAt c18 0) ns18_0 ex18_0 := by kernel_rfl
theorem e18 : (fun a => i18.G a) = fnEval T Y env18 an i18.ps i18.rs true Try.f18.results.toList lv18 c18 := by kernel_rfl
theorem lo18 : loopsOf c18 = [loopAt c18 0] := by kernel_rfl
theorem ll18 : LoopsOk T Y env18 an lv18 (finO T true ps18 (.ty (.sl (.st (.pr (.i .i64) (.pr (.i .i64) (.pr .s .s)))))) Try.f18.results.toList) c18 := loopsOk_of (by rw [lo18]; exact ⟨loop1 (li := l18_0) (by kernel_rfl) (by kernel_rfl) s18_0, trivial⟩)
theorem k18 : FnOk Try.prog 18 i18 :=
  fn_ok (T := T) (Y := Y) (an := an) (env := env18) (fr := true) (lenv := lv18) mixed tok.1 tok.2 (envCons k35 (envNil)) (fn := Try.f18) (c := c18) (by kernel_rfl) (by kernel_rfl) (by kernel_rfl) ll18 (fun a => congrFun e18 a)
/-! ### broker/brokerref32.Append -/
noncomputable def c58 : Code := Try.f58.body.getD .skip
noncomputable def env58 : Env := mkEnv [(36, i36)]
abbrev ps58 : List PSh := [.d (.st (.pr (.i .i64) (.pr (.i .i64) (.sl .u8)))), .d (.i .i64), .d .s, .d .s]
abbrev D58 : Type := pairD (.tup (.pr (.ty (.st (.pr (.i .i64) (.pr (.i .i64) (.sl .u8))))) (.pr (.ty (.i .i64)) (.ty (.i .i64))))) (osOf ps58)
noncomputable def lv58 : Nat → Option (LI D58) := fun _ => none
noncomputable def g58 (a0_0 : Int) (a0_1 : Int) (a0_2 : List UInt8) (a1 : Int) (a2 : List UInt8) (a3 : List UInt8) : Option ((Int × Int × List UInt8) × Int × Int) :=
  Option.bind (g36 a0_1 a1 a2 a3) fun v1 =>
  cond (v1.2 != 0)
    (some (((0, 0, []), 0, v1.2)))
    (cond (decide (IntKind.i64.wrap ((↑a0_2.length : Int) + (↑(List.length v1.1) : Int)) > 65536))
      (some (((0, 0, []), 0, 6)))
      (cond (decide (0 + a0_2.length ≤ 2147483647))
        (cond (decide (([] ++ a0_2).length + List.length v1.1 ≤ 2147483647))
          (some (((a0_0, IntKind.i64.wrap (a0_1 + 1), [] ++ a0_2 ++ v1.1), a0_1, 0)))
          (none))
        (none)))
noncomputable def i58 : FI := ⟨ps58, .tup (.pr (.ty (.st (.pr (.i .i64) (.pr (.i .i64) (.sl .u8))))) (.pr (.ty (.i .i64)) (.ty (.i .i64)))), fun ((a0_0, a0_1, a0_2), a1, a2, a3) => g58 a0_0 a0_1 a0_2 a1 a2 a3⟩
theorem e58 : (fun a => i58.G a) = fnEval T Y env58 an i58.ps i58.rs true Try.f58.results.toList lv58 c58 := by kernel_rfl
theorem lo58 : loopsOf c58 = [] := by kernel_rfl
theorem ll58 : LoopsOk T Y env58 an lv58 (finO T true ps58 (.tup (.pr (.ty (.st (.pr (.i .i64) (.pr (.i .i64) (.sl .u8))))) (.pr (.ty (.i .i64)) (.ty (.i .i64))))) Try.f58.results.toList) c58 := loopsOk_of (by rw [lo58]; exact trivial)
theorem k58 : FnOk Try.prog 58 i58 :=
  fn_ok (T := T) (Y := Y) (an := an) (env := env58) (fr := true) (lenv := lv58) mixed tok.1 tok.2 (envCons k36 (envNil)) (fn := Try.f58) (c := c58) (by kernel_rfl) (by kernel_rfl) (by kernel_rfl) ll58 (fun a => congrFun e58 a)
/-! ### broker/brokerref32.Truncate -/
noncomputable def c59 : Code := Try.f59.body.getD .skip
noncomputable def env59 : Env := mkEnv [(37, i37), (18, i18), (58, i58)]
abbrev ps59 : List PSh := [.d (.st (.pr (.i .i64) (.pr (.i .i64) (.sl .u8)))), .d (.i .i64)]
abbrev D59 : Type := pairD (.ty (.st (.pr (.i .i64) (.pr (.i .i64) (.sl .u8))))) (osOf ps59)
def ns59_0 : NS := { slots := [(4, .pt 4 []), (5, .pt 5 []), (1, .ty (.i .i64)), (6, .ty (.sl (.st (.pr (.i .i64) (.pr (.i .i64) (.pr .s .s)))))), (7, .ty (.i .i64))], roots := [(5, .ty (.st (.pr (.i .i64) (.pr (.i .i64) (.sl .u8))))), (4, .ty (.st (.pr (.i .i64) (.pr (.i .i64) (.sl .u8)))))] }
def ex59_0 : List (Nat × NS) := [(0, { slots := [(4, .pt 4 []), (5, .pt 5 [])], roots := [(5, .ty (.st (.pr (.i .i64) (.pr (.i .i64) (.sl .u8))))), (4, .ty (.st (.pr (.i .i64) (.pr (.i .i64) (.sl .u8)))))] })]
noncomputable def st59_0 (ih : ((Int × (List (Int × Int × List UInt8 × List UInt8)) × Int) × ((Int × Int × List UInt8) × Int × Int × List UInt8)) → Option (((Unit) × ((Int × Int × List UInt8) × Int × Int × List UInt8)) ⊕ ((Int × Int × List UInt8)))) : ((Int × (List (Int × Int × List UInt8 × List UInt8)) × Int) × ((Int × Int × List UInt8) × Int × Int × List UInt8)) → Option (((Unit) × ((Int × Int × List UInt8) × Int × Int × List UInt8)) ⊕ ((Int × Int × List UInt8))) := fun ((t1, t6, t7), ((r5_0, r5_1, r5_2), (r4_0, r4_1, r4_2))) =>
  cond (decide (t7 < (↑t6.length : Int)))
    (cond (decide (0 ≤ t7) && decide (t7 < (↑t6.length : Int)))
      (cond (decide ((t6.getD t7.toNat (0, 0, [], [])).1 < t1))
        (cond (decide (0 ≤ t7) && decide (t7 < (↑t6.length : Int)))
          (cond (decide (0 ≤ t7) && decide (t7 < (↑t6.length : Int)))
            (cond (decide (0 ≤ t7) && decide (t7 < (↑t6.length : Int)))
              (Option.bind (g58 r5_0 r5_1 r5_2 (t6.getD t7.toNat (0, 0, [], [])).2.1 (t6.getD t7.toNat (0, 0, [], [])).2.2.1 (t6.getD t7.toNat (0, 0, [], [])).2.2.2) fun v1 =>
              ih ((t1, t6, IntKind.i64.wrap (t7 + 1)), v1.1, r4_0, r4_1, r4_2))
              (none))
            (none))
          (none))
        (ih ((t1, t6, IntKind.i64.wrap (t7 + 1)), (r5_0, r5_1, r5_2), r4_0, r4_1, r4_2)))
      (none))
    (some (Sum.inl ((), (r5_0, r5_1, r5_2), r4_0, r4_1, r4_2)))
noncomputable def h59_0 : ((Int × (List (Int × Int × List UInt8 × List UInt8)) × Int) × ((Int × Int × List UInt8) × Int × Int × List UInt8)) → Option (((Unit) × ((Int × Int × List UInt8) × Int × Int × List UInt8)) ⊕ ((Int × Int × List UInt8))) := loopN st59_0 fuel
noncomputable def l59_0 : LI D59 := ⟨ns59_0, ex59_0, h59_0⟩
noncomputable def lv59 : Nat → Option (LI D59) := fun q => if q = 4 then some l59_0 else (fun _ => none) q
noncomputable def g59 (a0_0 : Int) (a0_1 : Int) (a0_2 : List UInt8) (a1 : Int) : Option (Int × Int × List UInt8) :=
  Option.bind (g37 a0_0) fun v1 =>
  Option.bind (g18 a0_0 a0_1 a0_2) fun v2 =>
  Option.bind (h59_0 ((a1, v2, 0), v1, 0, 0, [])) fun v3 =>
  match v3 with
  | .inl x4 =>
    some (x4.2.1)
  | .inr x4 =>
    some (x4)
noncomputable def i59 : FI := ⟨ps59, .ty (.st (.pr (.i .i64) (.pr (.i .i64) (.sl .u8)))), fun ((a0_0, a0_1, a0_2), a1) => g59 a0_0 a0_1 a0_2 a1⟩
theorem s59_0 : st59_0 = stepEval T Y env59 an lv59 (finO T true ps59 (.ty (.st (.pr (.i .i64) (.pr (.i .i64) (.sl .u8))))) Try.f59.results.toList) (loopAt c59 0) ns59_0 ex59_0 := by kernel_rfl
theorem e59 : (fun a => i59.G a) = fnEval T Y env59 an i59.ps i59.rs true Try.f59.results.toList lv59 c59 := by kernel_rfl
theorem lo59 : loopsOf c59 = [loopAt c59 0] := by kernel_rfl
theorem ll59 : LoopsOk T Y env59 an lv59 (finO T true ps59 (.ty (.st (.pr (.i .i64) (.pr (.i .i64) (.sl .u8))))) Try.f59.results.toList) c59 := loopsOk_of (by rw [lo59]; exact ⟨loop1 (li := l59_0) (by kernel_rfl) (by kernel_rfl) s59_0, trivial⟩)
theorem k59 : FnOk Try.prog 59 i59 :=
  fn_ok (T := T) (Y := Y) (an := an) (env := env59) (fr := true) (lenv := lv59) mixed tok.1 tok.2 (envCons k37 (envCons k18 (envCons k58 (envNil)))) (fn := Try.f59) (c := c59) (by kernel_rfl) (by kernel_rfl) (by kernel_rfl) ll59 (fun a => congrFun e59 a)
/-! ### broker/brokerref32.Same -/
noncomputable def c60 : Code := Try.f60.body.getD .skip
noncomputable def env60 : Env := mkEnv []
abbrev ps60 : List PSh := [.d (.st (.pr (.i .i64) (.pr (.i .i64) (.sl .u8)))), .d (.st (.pr (.i .i64) (.pr (.i .i64) (.sl .u8))))]
abbrev D60 : Type := pairD (.ty .b) (osOf ps60)
noncomputable def lv60 : Nat → Option (LI D60) := fun _ => none
noncomputable def g60 (a0_0 : Int) (a0_1 : Int) (a0_2 : List UInt8) (a1_0 : Int) (a1_1 : Int) (a1_2 : List UInt8) : Option (Bool) :=
  cond (a0_0 == a1_0)
    (cond (a0_1 == a1_1)
      (some (a0_2 == a1_2))
      (some (false)))
    (some (false))
noncomputable def i60 : FI := ⟨ps60, .ty .b, fun ((a0_0, a0_1, a0_2), (a1_0, a1_1, a1_2)) => g60 a0_0 a0_1 a0_2 a1_0 a1_1 a1_2⟩
theorem e60 : (fun a => i60.G a) = fnEval T Y env60 an i60.ps i60.rs true Try.f60.results.toList lv60 c60 := by kernel_rfl
theorem lo60 : loopsOf c60 = [] := by kernel_rfl
theorem ll60 : LoopsOk T Y env60 an lv60 (finO T true ps60 (.ty .b) Try.f60.results.toList) c60 := loopsOk_of (by rw [lo60]; exact trivial)
theorem k60 : FnOk Try.prog 60 i60 :=
  fn_ok (T := T) (Y := Y) (an := an) (env := env60) (fr := true) (lenv := lv60) mixed tok.1 tok.2 (envNil) (fn := Try.f60) (c := c60) (by kernel_rfl) (by kernel_rfl) (by kernel_rfl) ll60 (fun a => congrFun e60 a)
/-! ### broker/brokerref32.SameAll -/
noncomputable def c43 : Code := Try.f43.body.getD .skip
noncomputable def env43 : Env := mkEnv [(60, i60)]
abbrev ps43 : List PSh := [.d (.sl (.st (.pr (.i .i64) (.pr (.i .i64) (.sl .u8))))), .d (.sl (.st (.pr (.i .i64) (.pr (.i .i64) (.sl .u8)))))]
abbrev D43 : Type := pairD (.ty .b) (osOf ps43)
def ns43_0 : NS := { slots := [(0, .ty (.sl (.st (.pr (.i .i64) (.pr (.i .i64) (.sl .u8)))))), (1, .ty (.sl (.st (.pr (.i .i64) (.pr (.i .i64) (.sl .u8)))))), (5, .ty (.i .i64))], roots := [] }
def ex43_0 : List (Nat × NS) := [(0, { slots := [], roots := [] })]
noncomputable def st43_0 (ih : (((List (Int × Int × List UInt8)) × (List (Int × Int × List UInt8)) × Int) × (Unit)) → Option (((Unit) × (Unit)) ⊕ Bool)) : (((List (Int × Int × List UInt8)) × (List (Int × Int × List UInt8)) × Int) × (Unit)) → Option (((Unit) × (Unit)) ⊕ Bool) := fun ((t0, t1, t5), ()) =>
  cond (decide (t5 < (↑t0.length : Int)))
    (cond (decide (0 ≤ t5) && decide (t5 < (↑t0.length : Int)))
      (cond (decide (0 ≤ t5) && decide (t5 < (↑t1.length : Int)))
        (Option.bind (g60 (t0.getD t5.toNat (0, 0, [])).1 (t0.getD t5.toNat (0, 0, [])).2.1 (t0.getD t5.toNat (0, 0, [])).2.2 (t1.getD t5.toNat (0, 0, [])).1 (t1.getD t5.toNat (0, 0, [])).2.1 (t1.getD t5.toNat (0, 0, [])).2.2) fun v1 =>
        cond (!v1)
          (some (Sum.inr false))
          (ih ((t0, t1, IntKind.i64.wrap (t5 + 1)), ())))
        (none))
      (none))
    (some (Sum.inl ((), ())))
noncomputable def h43_0 : (((List (Int × Int × List UInt8)) × (List (Int × Int × List UInt8)) × Int) × (Unit)) → Option (((Unit) × (Unit)) ⊕ Bool) := loopN st43_0 fuel
noncomputable def l43_0 : LI D43 := ⟨ns43_0, ex43_0, h43_0⟩
noncomputable def lv43 : Nat → Option (LI D43) := fun q => if q = 4 then some l43_0 else (fun _ => none) q
noncomputable def g43 (a0 : List (Int × Int × List UInt8)) (a1 : List (Int × Int × List UInt8)) : Option (Bool) :=
  cond ((↑a0.length : Int) != (↑a1.length : Int))
    (some (false))
    (Option.bind (h43_0 ((a0, a1, 0), ())) fun v1 =>
    match v1 with
    | .inl x2 =>
      some (true)
    | .inr x2 =>
      some (x2))
noncomputable def i43 : FI := ⟨ps43, .ty .b, fun (a0, a1) => g43 a0 a1⟩
theorem s43_0 : st43_0 = stepEval T Y env43 an lv43 (finO T true ps43 (.ty .b) Try.f43.results.toList) (loopAt c43 0) ns43_0 ex43_0 := by kernel_rfl
theorem e43 : (fun a => i43.G a) = fnEval T Y env43 an i43.ps i43.rs true Try.f43.results.toList lv43 c43 := by kernel_rfl
theorem lo43 : loopsOf c43 = [loopAt c43 0] := by kernel_rfl
theorem ll43 : LoopsOk T Y env43 an lv43 (finO T true ps43 (.ty .b) Try.f43.results.toList) c43 := loopsOk_of (by rw [lo43]; exact ⟨loop1 (li := l43_0) (by kernel_rfl) (by kernel_rfl) s43_0, trivial⟩)
theorem k43 : FnOk Try.prog 43 i43 :=
  fn_ok (T := T) (Y := Y) (an := an) (env := env43) (fr := true) (lenv := lv43) mixed tok.1 tok.2 (envCons k60 (envNil)) (fn := Try.f43) (c := c43) (by kernel_rfl) (by kernel_rfl) (by kernel_rfl) ll43 (fun a => congrFun e43 a)
end Go.Proofs.Ytbncnkchedhnpaa.EVT
