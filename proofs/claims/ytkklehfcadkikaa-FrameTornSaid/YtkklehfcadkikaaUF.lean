/- What functions compute, as printed (U, part F). -/
import Derived.Test.YtkklehfcadkikaaUA
set_option linter.unusedVariables false
set_option maxRecDepth 100000
set_option maxHeartbeats 0
namespace Go.Proofs.Ytkklehfcadkikaa.EVT
open Go Go.EV
/-! ### broker/brokerlaw04.awake -/
noncomputable def c34 : Code := Try.f34.body.getD .skip
noncomputable def env34 : Env := mkEnv [(41, i41), (35, i35), (37, i37), (39, i39)]
abbrev ps34 : List PSh := []
abbrev D34 : Type := pairD (.ty .b) (osOf ps34)
noncomputable def lv34 : Nat → Option (LI D34) := fun _ => none
noncomputable def g34 : Option (Bool) :=
  Option.bind (g41 [UInt8.ofNat (Int.toNat 9), UInt8.ofNat (Int.toNat 2), UInt8.ofNat (Int.toNat 228), UInt8.ofNat (Int.toNat 12), UInt8.ofNat (Int.toNat 41), UInt8.ofNat (Int.toNat 44), UInt8.ofNat (Int.toNat 97)] 1) fun v1 =>
  Option.bind (g35 []) fun v2 =>
  cond (v2 == 2166136261)
    (Option.bind (g37 [UInt8.ofNat (Int.toNat 97)]) fun v3 =>
    cond (v3 == [2, 228, 12, 41, 44, 97])
      (cond (v1.1 == [97])
        (cond (v1.2.1 == 7)
          (cond (v1.2.2 == 0)
            (Option.bind (g39 64) fun v4 =>
            some (v4 == 70))
            (some (false)))
          (some (false)))
        (some (false)))
      (some (false)))
    (some (false))
noncomputable def i34 : FI := ⟨ps34, .ty .b, fun _ => g34⟩
theorem e34 : (fun a => i34.G a) = fnEval T Y env34 an i34.ps i34.rs true Try.f34.results.toList lv34 c34 := by kernel_rfl
theorem lo34 : loopsOf c34 = [] := by kernel_rfl
theorem ll34 : LoopsOk T Y env34 an lv34 (finO T true ps34 (.ty .b) Try.f34.results.toList) c34 := loopsOk_of (by rw [lo34]; exact trivial)
theorem k34 : FnOk Try.prog 34 i34 :=
  fn_ok (T := T) (Y := Y) (an := an) (env := env34) (fr := true) (lenv := lv34) mixed tok.1 tok.2 (envCons k41 (envCons k35 (envCons k37 (envCons k39 (envNil))))) (fn := Try.f34) (c := c34) (by kernel_rfl) (by kernel_rfl) (by kernel_rfl) ll34 (fun a => congrFun e34 a)
/-! ### broker/frame.All -/
noncomputable def c49 : Code := Try.f49.body.getD .skip
noncomputable def env49 : Env := mkEnv [(41, i41)]
abbrev ps49 : List PSh := [.d (.sl .u8)]
abbrev D49 : Type := pairD (.tup (.pr (.ty (.sl (.sl .u8))) (.ty (.i .i64)))) (osOf ps49)
def ns49_0 : NS := { slots := [(4, .hw 25), (0, .ty (.sl .u8)), (5, .ty (.i .i64))], roots := [(25, .ar 1 (.sl .u8))], ad := [{ t := 4, path := [], g := 25, d := 1, τ := (.sl .u8 : Ty) }] }
def ex49_0 : List (Nat × NS) := [(0, { slots := [(4, .hw 25), (5, .ty (.i .i64))], roots := [(25, .ar 1 (.sl .u8))] })]
noncomputable def st49_0 (ih : ((List UInt8 × Int) × (List (List UInt8))) → Option (((Int) × (List (List UInt8))) ⊕ ((List (List UInt8) × Int)))) : ((List UInt8 × Int) × (List (List UInt8))) → Option (((Int) × (List (List UInt8))) ⊕ ((List (List UInt8) × Int))) := fun ((t0, t5), r25) =>
  cond (decide (t5 < (↑t0.length : Int)))
    (Option.bind (g41 t0 t5) fun v1 =>
    cond (v1.2.2 != 0)
      (some (Sum.inl (t5, r25)))
      (cond (decide (r25.length + 1 ≤ 2147483647))
        (ih ((t0, v1.2.1), r25 ++ [v1.1]))
        (none)))
    (some (Sum.inl (t5, r25)))
noncomputable def h49_0 : ((List UInt8 × Int) × (List (List UInt8))) → Option (((Int) × (List (List UInt8))) ⊕ ((List (List UInt8) × Int))) := loopN st49_0 fuel
noncomputable def l49_0 : LI D49 := ⟨ns49_0, ex49_0, h49_0⟩
noncomputable def lv49 : Nat → Option (LI D49) := fun q => if q = 3 then some l49_0 else (fun _ => none) q
noncomputable def g49 (a0 : List UInt8) : Option (List (List UInt8) × Int) :=
  Option.bind (h49_0 ((a0, 0), [])) fun v1 =>
  match v1 with
  | .inl x2 =>
    some ((x2.2, x2.1))
  | .inr x2 =>
    some (x2)
noncomputable def i49 : FI := ⟨ps49, .tup (.pr (.ty (.sl (.sl .u8))) (.ty (.i .i64))), fun a0 => g49 a0⟩
theorem s49_0 : st49_0 = stepEval T Y env49 an lv49 (finO T true ps49 (.tup (.pr (.ty (.sl (.sl .u8))) (.ty (.i .i64)))) Try.f49.results.toList) (loopAt c49 0) ns49_0 ex49_0 := by kernel_rfl
theorem e49 : (fun a => i49.G a) = fnEval T Y env49 an i49.ps i49.rs true Try.f49.results.toList lv49 c49 := by kernel_rfl
theorem lo49 : loopsOf c49 = [loopAt c49 0] := by kernel_rfl
theorem ll49 : LoopsOk T Y env49 an lv49 (finO T true ps49 (.tup (.pr (.ty (.sl (.sl .u8))) (.ty (.i .i64)))) Try.f49.results.toList) c49 := loopsOk_of (by rw [lo49]; exact ⟨loop1 (li := l49_0) (by kernel_rfl) (by kernel_rfl) s49_0, trivial⟩)
theorem k49 : FnOk Try.prog 49 i49 :=
  fn_ok (T := T) (Y := Y) (an := an) (env := env49) (fr := true) (lenv := lv49) mixed tok.1 tok.2 (envCons k41 (envNil)) (fn := Try.f49) (c := c49) (by kernel_rfl) (by kernel_rfl) (by kernel_rfl) ll49 (fun a => congrFun e49 a)
/-! ### broker/brokerref04.Same -/
noncomputable def c51 : Code := Try.f51.body.getD .skip
noncomputable def env51 : Env := mkEnv []
abbrev ps51 : List PSh := [.d (.sl (.sl .u8)), .d (.sl (.sl .u8))]
abbrev D51 : Type := pairD (.ty .b) (osOf ps51)
def ns51_0 : NS := { slots := [(0, .ty (.sl (.sl .u8))), (1, .ty (.sl (.sl .u8))), (5, .ty (.i .i64))], roots := [] }
def ex51_0 : List (Nat × NS) := [(0, { slots := [], roots := [] })]
noncomputable def st51_0 (ih : ((List (List UInt8) × List (List UInt8) × Int) × (Unit)) → Option (((Unit) × (Unit)) ⊕ Bool)) : ((List (List UInt8) × List (List UInt8) × Int) × (Unit)) → Option (((Unit) × (Unit)) ⊕ Bool) := fun ((t0, t1, t5), ()) =>
  cond (decide (t5 < (↑t0.length : Int)))
    (cond (decide (0 ≤ t5) && decide (t5 < (↑t0.length : Int)))
      (cond (decide (0 ≤ t5) && decide (t5 < (↑t1.length : Int)))
        (cond (!t0.getD t5.toNat [] == t1.getD t5.toNat [])
          (some (Sum.inr false))
          (ih ((t0, t1, IntKind.i64.wrap (t5 + 1)), ())))
        (none))
      (none))
    (some (Sum.inl ((), ())))
noncomputable def h51_0 : ((List (List UInt8) × List (List UInt8) × Int) × (Unit)) → Option (((Unit) × (Unit)) ⊕ Bool) := loopN st51_0 fuel
noncomputable def l51_0 : LI D51 := ⟨ns51_0, ex51_0, h51_0⟩
noncomputable def lv51 : Nat → Option (LI D51) := fun q => if q = 4 then some l51_0 else (fun _ => none) q
noncomputable def g51 (a0 : List (List UInt8)) (a1 : List (List UInt8)) : Option (Bool) :=
  cond ((↑a0.length : Int) != (↑a1.length : Int))
    (some (false))
    (Option.bind (h51_0 ((a0, a1, 0), ())) fun v1 =>
    match v1 with
    | .inl x2 =>
      some (true)
    | .inr x2 =>
      some (x2))
noncomputable def i51 : FI := ⟨ps51, .ty .b, fun (a0, a1) => g51 a0 a1⟩
theorem s51_0 : st51_0 = stepEval T Y env51 an lv51 (finO T true ps51 (.ty .b) Try.f51.results.toList) (loopAt c51 0) ns51_0 ex51_0 := by kernel_rfl
theorem e51 : (fun a => i51.G a) = fnEval T Y env51 an i51.ps i51.rs true Try.f51.results.toList lv51 c51 := by kernel_rfl
theorem lo51 : loopsOf c51 = [loopAt c51 0] := by kernel_rfl
theorem ll51 : LoopsOk T Y env51 an lv51 (finO T true ps51 (.ty .b) Try.f51.results.toList) c51 := loopsOk_of (by rw [lo51]; exact ⟨loop1 (li := l51_0) (by kernel_rfl) (by kernel_rfl) s51_0, trivial⟩)
theorem k51 : FnOk Try.prog 51 i51 :=
  fn_ok (T := T) (Y := Y) (an := an) (env := env51) (fr := true) (lenv := lv51) mixed tok.1 tok.2 (envNil) (fn := Try.f51) (c := c51) (by kernel_rfl) (by kernel_rfl) (by kernel_rfl) ll51 (fun a => congrFun e51 a)
/-! ### broker/brokerlaw04.short -/
noncomputable def c52 : Code := Try.f52.body.getD .skip
noncomputable def env52 : Env := mkEnv []
abbrev ps52 : List PSh := [.d (.sl (.sl .u8))]
abbrev D52 : Type := pairD (.ty .b) (osOf ps52)
def ns52_0 : NS := { slots := [(0, .ty (.sl (.sl .u8))), (3, .ty (.i .i64))], roots := [] }
def ex52_0 : List (Nat × NS) := [(0, { slots := [], roots := [] })]
noncomputable def st52_0 (ih : ((List (List UInt8) × Int) × (Unit)) → Option (((Unit) × (Unit)) ⊕ Bool)) : ((List (List UInt8) × Int) × (Unit)) → Option (((Unit) × (Unit)) ⊕ Bool) := fun ((t0, t3), ()) =>
  cond (decide (t3 < (↑t0.length : Int)))
    (cond (decide (0 ≤ t3) && decide (t3 < (↑t0.length : Int)))
      (cond (decide ((↑(t0.getD t3.toNat []).length : Int) > 600))
        (some (Sum.inr false))
        (ih ((t0, IntKind.i64.wrap (t3 + 1)), ())))
      (none))
    (some (Sum.inl ((), ())))
noncomputable def h52_0 : ((List (List UInt8) × Int) × (Unit)) → Option (((Unit) × (Unit)) ⊕ Bool) := loopN st52_0 fuel
noncomputable def l52_0 : LI D52 := ⟨ns52_0, ex52_0, h52_0⟩
noncomputable def lv52 : Nat → Option (LI D52) := fun q => if q = 4 then some l52_0 else (fun _ => none) q
noncomputable def g52 (a0 : List (List UInt8)) : Option (Bool) :=
  cond (decide ((↑a0.length : Int) > 12))
    (some (false))
    (Option.bind (h52_0 ((a0, 0), ())) fun v1 =>
    match v1 with
    | .inl x2 =>
      some (true)
    | .inr x2 =>
      some (x2))
noncomputable def i52 : FI := ⟨ps52, .ty .b, fun a0 => g52 a0⟩
theorem s52_0 : st52_0 = stepEval T Y env52 an lv52 (finO T true ps52 (.ty .b) Try.f52.results.toList) (loopAt c52 0) ns52_0 ex52_0 := by kernel_rfl
theorem e52 : (fun a => i52.G a) = fnEval T Y env52 an i52.ps i52.rs true Try.f52.results.toList lv52 c52 := by kernel_rfl
theorem lo52 : loopsOf c52 = [loopAt c52 0] := by kernel_rfl
theorem ll52 : LoopsOk T Y env52 an lv52 (finO T true ps52 (.ty .b) Try.f52.results.toList) c52 := loopsOk_of (by rw [lo52]; exact ⟨loop1 (li := l52_0) (by kernel_rfl) (by kernel_rfl) s52_0, trivial⟩)
theorem k52 : FnOk Try.prog 52 i52 :=
  fn_ok (T := T) (Y := Y) (an := an) (env := env52) (fr := true) (lenv := lv52) mixed tok.1 tok.2 (envNil) (fn := Try.f52) (c := c52) (by kernel_rfl) (by kernel_rfl) (by kernel_rfl) ll52 (fun a => congrFun e52 a)
/-! ### broker/brokerlaw04.FrameTorn -/
noncomputable def c18 : Code := Try.f18.body.getD .skip
noncomputable def env18 : Env := mkEnv [(52, i52), (34, i34), (37, i37), (49, i49), (51, i51)]
abbrev ps18 : List PSh := [.d (.sl (.sl .u8)), .d (.i .i64)]
abbrev D18 : Type := pairD (.ty .b) (osOf ps18)
def ns18_0 : NS := { slots := [(5, .hw 31), (6, .hw 42), (0, .ty (.sl (.sl .u8))), (1, .ty (.i .i64)), (7, .ty (.i .i64)), (8, .ty (.i .i64))], roots := [(31, .ar 1 .u8), (42, .ar 1 (.sl .u8))], ad := [{ t := 5, path := [], g := 31, d := 1, τ := (.u8 : Ty) }, { t := 6, path := [], g := 42, d := 1, τ := (.sl .u8 : Ty) }] }
def ex18_0 : List (Nat × NS) := [(0, { slots := [(5, .hw 31), (6, .hw 42), (1, .ty (.i .i64)), (7, .ty (.i .i64))], roots := [(42, .ar 1 (.sl .u8)), (31, .ar 1 .u8)] })]
noncomputable def st18_0 (ih : ((List (List UInt8) × Int × Int × Int) × (List UInt8 × List (List UInt8))) → Option (((Int × Int) × (List (List UInt8) × List UInt8)) ⊕ Bool)) : ((List (List UInt8) × Int × Int × Int) × (List UInt8 × List (List UInt8))) → Option (((Int × Int) × (List (List UInt8) × List UInt8)) ⊕ Bool) := fun ((t0, t1, t7, t8), (r31, r42)) =>
  cond (decide (t8 < (↑t0.length : Int)))
    (cond (decide (0 ≤ t8) && decide (t8 < (↑t0.length : Int)))
      (Option.bind (g37 (t0.getD t8.toNat [])) fun v1 =>
      cond (decide (r31.length + List.length v1 ≤ 2147483647))
        (cond (decide ((↑(r31 ++ v1).length : Int) ≤ t1))
          (cond (decide (0 ≤ t8) && decide (t8 < (↑t0.length : Int)))
            (cond (decide (r42.length + 1 ≤ 2147483647))
              (ih ((t0, t1, (↑(r31 ++ v1).length : Int), IntKind.i64.wrap (t8 + 1)), r31 ++ v1, r42 ++ [t0.getD t8.toNat []]))
              (none))
            (none))
          (ih ((t0, t1, t7, IntKind.i64.wrap (t8 + 1)), r31 ++ v1, r42)))
        (none))
      (none))
    (some (Sum.inl ((t1, t7), r42, r31)))
noncomputable def h18_0 : ((List (List UInt8) × Int × Int × Int) × (List UInt8 × List (List UInt8))) → Option (((Int × Int) × (List (List UInt8) × List UInt8)) ⊕ Bool) := loopN st18_0 fuel
noncomputable def l18_0 : LI D18 := ⟨ns18_0, ex18_0, h18_0⟩
noncomputable def lv18 : Nat → Option (LI D18) := fun q => if q = 7 then some l18_0 else (fun _ => none) q
noncomputable def g18 (a0 : List (List UInt8)) (a1 : Int) : Option (Bool) :=
  Option.bind (g52 a0) fun v1 =>
  cond (!v1)
    (Option.bind (g34) fun v2 =>
    some (v2))
    (cond (decide (a1 < 0))
      (Option.bind (g34) fun v3 =>
      some (v3))
      (Option.bind (h18_0 ((a0, a1, 0, 0), [], [])) fun v4 =>
      match v4 with
      | .inl x5 =>
        cond (decide (x5.1.1 > (↑(List.length x5.2.2) : Int)))
          (Option.bind (g34) fun v6 =>
          some (v6))
          (cond (decide (0 ≤ x5.1.1) && decide (x5.1.1 ≤ (↑(List.length x5.2.2) : Int)) && true)
            (Option.bind (g49 (List.take (Int.toNat x5.1.1 - 0) (List.drop 0 x5.2.2))) fun v7 =>
            Option.bind (g51 v7.1 x5.2.1) fun v8 =>
            cond (v8)
              (cond (v7.2 == x5.1.2)
                (Option.bind (g34) fun v9 =>
                some (v9))
                (some (false)))
              (some (false)))
            (none))
      | .inr x5 =>
        some (x5)))
noncomputable def i18 : FI := ⟨ps18, .ty .b, fun (a0, a1) => g18 a0 a1⟩
theorem s18_0 : st18_0 = stepEval T Y env18 an lv18 (finO T true ps18 (.ty .b) Try.f18.results.toList) (loopAt c18 0) ns18_0 ex18_0 := by kernel_rfl
theorem e18 : (fun a => i18.G a) = fnEval T Y env18 an i18.ps i18.rs true Try.f18.results.toList lv18 c18 := by kernel_rfl
theorem lo18 : loopsOf c18 = [loopAt c18 0] := by kernel_rfl
theorem ll18 : LoopsOk T Y env18 an lv18 (finO T true ps18 (.ty .b) Try.f18.results.toList) c18 := loopsOk_of (by rw [lo18]; exact ⟨loop1 (li := l18_0) (by kernel_rfl) (by kernel_rfl) s18_0, trivial⟩)
theorem k18 : FnOk Try.prog 18 i18 :=
  fn_ok (T := T) (Y := Y) (an := an) (env := env18) (fr := true) (lenv := lv18) mixed tok.1 tok.2 (envCons k52 (envCons k34 (envCons k37 (envCons k49 (envCons k51 (envNil)))))) (fn := Try.f18) (c := c18) (by kernel_rfl) (by kernel_rfl) (by kernel_rfl) ll18 (fun a => congrFun e18 a)
end Go.Proofs.Ytkklehfcadkikaa.EVT
