/- What functions compute, as printed (U, part L). -/
import Derived.Test.YtfadalgikdffeaaUE
set_option linter.unusedVariables false
set_option maxRecDepth 100000
set_option maxHeartbeats 0
namespace Go.Proofs.Ytfadalgikdffeaa.EVT
open Go Go.EV
/-! ### broker/brokerlaw41.ReplicaChecks -/
noncomputable def c3 : Code := Try.f3.body.getD .skip
noncomputable def env3 : Env := mkEnv [(7, i7), (8, i8), (9, i9), (10, i10), (11, i11), (12, i12), (13, i13)]
abbrev ps3 : List PSh := [.d (.i .i64), .d (.i .i64), .d (.st (.pr (.st (.pr (.i .i64) (.pr (.i .i64) (.pr (.i .i64) (.pr (.i .i64) (.pr (.i .i64) (.pr (.i .i64) (.sl (.i .i64))))))))) (.pr (.i .i64) (.pr (.sl (.st (.pr (.i .i64) .s))) (.sl (.i .i64))))))]
abbrev D3 : Type := pairD (.ty .b) (osOf ps3)
noncomputable def lv3 : Nat → Option (LI D3) := fun _ => none
noncomputable def g3 (a0 : Int) (a1 : Int) (a2_0_0 : Int) (a2_0_1 : Int) (a2_0_2 : Int) (a2_0_3 : Int) (a2_0_4 : Int) (a2_0_5 : Int) (a2_0_6 : List Int) (a2_1 : Int) (a2_2 : List (Int × List UInt8)) (a2_3 : List Int) : Option (Bool) :=
  Option.bind (g7 a2_0_0 a2_0_1 a2_0_2 a2_0_3 a2_0_4 a2_0_5 a2_0_6 a2_1 a2_2 a2_3) fun v1 =>
  cond (!v1)
    (Option.bind (g8) fun v2 =>
    some (v2))
    (Option.bind (g9 a0 a1) fun v3 =>
    Option.bind (g10 a0 a1) fun v4 =>
    Option.bind (g11 v3.1.1.1 v3.1.1.2.1 v3.1.1.2.2.1 v3.1.1.2.2.2.1 v3.1.1.2.2.2.2.1 v3.1.1.2.2.2.2.2.1 v3.1.1.2.2.2.2.2.2 v3.1.2.1 v3.1.2.2.1 v3.1.2.2.2 v4.1.1.1 v4.1.1.2.1 v4.1.1.2.2.1 v4.1.1.2.2.2.1 v4.1.1.2.2.2.2.1 v4.1.1.2.2.2.2.2.1 v4.1.1.2.2.2.2.2.2 v4.1.2.1 v4.1.2.2.1 v4.1.2.2.2) fun v5 =>
    cond (v5)
      (cond (v3.2 == v4.2)
        (Option.bind (g12 a2_0_0 a2_0_1 a2_0_2 a2_0_3 a2_0_4 a2_0_5 a2_0_6 a2_1 a2_2 a2_3) fun v6 =>
        Option.bind (g13 a2_0_0 a2_0_1 a2_0_2 a2_0_3 a2_0_4 a2_0_5 a2_0_6 a2_1 a2_2 a2_3) fun v7 =>
        cond (v6 == v7)
          (Option.bind (g8) fun v8 =>
          some (v8))
          (some (false)))
        (some (false)))
      (some (false)))
noncomputable def i3 : FI := ⟨ps3, .ty .b, fun (a0, a1, ((a2_0_0, a2_0_1, a2_0_2, a2_0_3, a2_0_4, a2_0_5, a2_0_6), a2_1, a2_2, a2_3)) => g3 a0 a1 a2_0_0 a2_0_1 a2_0_2 a2_0_3 a2_0_4 a2_0_5 a2_0_6 a2_1 a2_2 a2_3⟩
theorem e3 : (fun a => i3.G a) = fnEval T Y env3 an i3.ps i3.rs true Try.f3.results.toList lv3 c3 := by kernel_rfl
theorem lo3 : loopsOf c3 = [] := by kernel_rfl
theorem ll3 : LoopsOk T Y env3 an lv3 (finO T true ps3 (.ty .b) Try.f3.results.toList) c3 := loopsOk_of (by rw [lo3]; exact trivial)
theorem k3 : FnOk Try.prog 3 i3 :=
  fn_ok (T := T) (Y := Y) (an := an) (env := env3) (fr := true) (lenv := lv3) mixed tok.1 tok.2 (envCons k7 (envCons k8 (envCons k9 (envCons k10 (envCons k11 (envCons k12 (envCons k13 (envNil)))))))) (fn := Try.f3) (c := c3) (by kernel_rfl) (by kernel_rfl) (by kernel_rfl) ll3 (fun a => congrFun e3 a)
end Go.Proofs.Ytfadalgikdffeaa.EVT
