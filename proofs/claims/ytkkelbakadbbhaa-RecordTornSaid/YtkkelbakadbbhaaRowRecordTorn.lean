/- The statement RecordTornSaid: for every input the law RecordTorn returns true and leaves its arguments as they were; out of what the Go code computes and the plain law. -/
import Derived.Test.YtkkelbakadbbhaaRows
import Derived.Test.YtkkelbakadbbhaaJbrokerlaw31RecordTorn
import Derived.Test.YtkkelbakadbbhaaO
import Derived.Test.YtkkelbakadbbhaaPureRecordTorn
import Derived.WalkKit
import Derived.ProofKit
import Derived.OpenShut
import Derived.ShutString
import Derived.ChangeOld
import Derived.Below
import Derived.SizedLaws
namespace Go.Proofs.Ytkkelbakadbbhaa.recordTorn
open Go.ChangeShapes Go.WideShapes Go.ChangeAt Go.RowKit Go.Proofs.Ytkkelbakadbbhaa.Opn Go.Proofs.YtkkelbakadbbhaaW.PrintWords Go.Proofs.Ytkkelbakadbbhaa.J
open Go.ChangeMaps (open_string shut_string)
set_option linter.unusedVariables false
set_option linter.unusedSimpArgs false
theorem own : ownKnob Try.prog.godebug = none := by kernel_rfl
theorem laidOut : laidOutB Try.prog = true := by kernel_rfl
set_option maxRecDepth 100000 in
theorem lifted (os : Os) (started : os.Started) (H : Type) (enc : TypeId × Value → H) :
    ReturnsInHanded {} Try.checked os 8 .any (Rows.recordTornSpec.pre6 enc Try.prog Try.f8 Rows.recordTornRow.domain false) (Rows.recordTornSpec.post enc Try.prog Try.f8 false true false false) := by
  refine returnsInHanded_of_change_sized (C := Try.checked) own started (by kernel_rfl) Try.func8
    (ChangeSpec.witness6 (enc := enc) (C := Try.checked) false ⟨#[], #[.agg #[.int .i64 0, .int .i64 0, .string ByteArray.empty, .string ByteArray.empty], .agg #[.int .i64 0, .int .i64 0, .int .u8 0]], []⟩ 8 (by kernel_rfl) (by kernel_rfl) (by kernel_rfl) (by kernel_rfl)) ?_
  intro W base args ds gs before hval0 hW hcnd hsz0 _
  have hval : ∀ (j : Nat) t v, Try.f8.params[j]? = some t → args[j]? = some v → Value.okWide Try.prog W .any base t v := hval0
  have hW' := hW
  obtain ⟨p, q, hA0, hV, rfl, hfz, hnd⟩ := hW
  have hA : DataW.TrodAll enc Try.prog W 0 (fun _ => true) true Try.f8.params.toList args.toList ds p := hA0
  rw [Try.params8] at hA hval
  obtain ⟨v0, vs0, d0, ds0, p0, q0, hargs, rfl, rfl, h0, r0⟩ := trodAll_cons hA
  obtain ⟨v1, vs1, d1, ds1, p1, q1, rfl, rfl, rfl, h1, r1⟩ := trodAll_cons r0
  obtain ⟨rfl, rfl, rfl⟩ := trodAll_nil r1
  obtain rfl : args = #[v0, v1] := by cases args; simp_all
  obtain ⟨rfl, rfl⟩ := trodVars_none hV
  have k0 := h0
  have lt0 : ∀ x ∈ p0, x.block < W.heap.size := by obtain ⟨m, hm⟩ := k0; exact DataW.trod_lt m _ _ _ hm
  obtain ⟨cs0, rfl⟩ := okWide_agg Try.underlying23 (hval 0 23 v0 rfl rfl)
  obtain ⟨X0, KX0, WX0⟩ := opens_trod ((opens_struct Try.underlying23 (by kernel_rfl) (opensF_cons rfl (by kernel_rfl) (opens_int Try.underlying3) (opensF_cons rfl (by kernel_rfl) (opens_int Try.underlying3) (opensF_cons rfl (by kernel_rfl) (opens_string Try.underlying9) (opensF_one rfl (by kernel_rfl) (opens_string Try.underlying9)))))) : Opens Try.prog _ 23 _) k0
  obtain ⟨x0_0, rx0_0⟩ := X0
  obtain ⟨lx0_0, mx0_0, Ex0_0, Kx0_0, Rx0_0⟩ := KX0
  obtain ⟨yx0_0, zx0_0⟩ := WX0
  obtain ⟨x0_1, rx0_1⟩ := rx0_0
  obtain ⟨lx0_1, mx0_1, Ex0_1, Kx0_1, Rx0_1⟩ := Rx0_0
  obtain ⟨yx0_1, zx0_1⟩ := zx0_0
  obtain ⟨x0_2, rx0_2⟩ := rx0_1
  obtain ⟨lx0_2, mx0_2, Ex0_2, Kx0_2, Rx0_2⟩ := Rx0_1
  obtain ⟨yx0_2, zx0_2⟩ := zx0_1
  obtain ⟨x0_3, hx0_3⟩ : ∃ q_, q_ = rx0_2 := ⟨_, rfl⟩
  have EEx0_0 : _ = [Value.int .i64 x0_0] := Kx0_0
  have EEx0_1 : _ = [Value.int .i64 x0_1] := Kx0_1
  have EEx0_2 : _ = [Value.string x0_2] := Kx0_2
  have EEx0_3 : _ = [Value.string rx0_2] := Rx0_2
  have cse0 : cs0 = #[.int .i64 x0_0, .int .i64 x0_1, .string x0_2, .string rx0_2] := by
    apply Array.ext'
    have z_ : (Value.agg cs0).cells.toList = _ := rfl
    simp_all [Value.cells]
  subst cse0
  have k1 := h1
  have lt1 : ∀ x ∈ p1, x.block < W.heap.size := by obtain ⟨m, hm⟩ := k1; exact DataW.trod_lt m _ _ _ hm
  obtain ⟨cs1, rfl⟩ := okWide_agg Try.underlying39 (hval 1 39 v1 rfl rfl)
  obtain ⟨X1, KX1, WX1⟩ := opens_trod ((opens_struct Try.underlying39 (by kernel_rfl) (opensF_cons rfl (by kernel_rfl) (opens_int Try.underlying3) (opensF_cons rfl (by kernel_rfl) (opens_int Try.underlying3) (opensF_one rfl (by kernel_rfl) (opens_int Try.underlying5))))) : Opens Try.prog _ 39 _) k1
  obtain ⟨x1_0, rx1_0⟩ := X1
  obtain ⟨lx1_0, mx1_0, Ex1_0, Kx1_0, Rx1_0⟩ := KX1
  obtain ⟨yx1_0, zx1_0⟩ := WX1
  obtain ⟨x1_1, rx1_1⟩ := rx1_0
  obtain ⟨lx1_1, mx1_1, Ex1_1, Kx1_1, Rx1_1⟩ := Rx1_0
  obtain ⟨yx1_1, zx1_1⟩ := zx1_0
  obtain ⟨x1_2, hx1_2⟩ : ∃ q_, q_ = rx1_1 := ⟨_, rfl⟩
  have EEx1_0 : _ = [Value.int .i64 x1_0] := Kx1_0
  have EEx1_1 : _ = [Value.int .i64 x1_1] := Kx1_1
  have EEx1_2 : _ = [Value.int .u8 rx1_1] := Rx1_1
  have cse1 : cs1 = #[.int .i64 x1_0, .int .i64 x1_1, .int .u8 rx1_1] := by
    apply Array.ext'
    have z_ : (Value.agg cs1).cells.toList = _ := rfl
    simp_all [Value.cells]
  subst cse1
  clear hA0 hval0 hsz0
  obtain ⟨k, hk⟩ := Pure.RecordTorn _ _ _ _ _ _ _ yx0_0 yx0_1 yx0_2 zx0_2 yx1_0 yx1_1 zx1_1
  refine (brokerlaw31_RecordTorn.calls k x0_0 x0_1 x0_2 rx0_2 x1_0 x1_1 rx1_1 true W  hk).mono fun e W' ⟨he, bel0⟩ => ?_
  have bel : Below W.heap.size W W' := bel0
  subst he
  exact ⟨_, rfl, _, _, _, [], _, [], hW', trodAll_mk1 (shut_bool Try.underlying4 _), (trodAll_cons_mk (Below.trod laidOut (by kernel_rfl) (of_decide_eq_true (by kernel_rfl)) k0 bel lt0) (trodAll_cons_mk (Below.trod laidOut (by kernel_rfl) (of_decide_eq_true (by kernel_rfl)) k1 bel lt1) trodAll_mk0)), rfl, bel.frame _, fun h => by cases h⟩
theorem over : Rows.recordTornRow.holds Try.pinned (OpenSpec.ofChange Rows.recordTornSpec) :=
  OpenClaim.holds_of_wide 8 Try.f8 rfl rfl rfl rfl rfl rfl rfl ⟨rfl, rfl, rfl, rfl, rfl⟩ rfl rfl rfl rfl rfl (by kernel_rfl) Try.func8 (by kernel_rfl)
    (of_decide_eq_true (by kernel_rfl)) (by unfold Func.isWrapper; first | (rw [if_pos (by decide +kernel)]; kernel_rfl) | (rw [if_neg (by decide +kernel)]; exact ⟨rfl, rfl⟩))
    (fun os started H enc _ => lifted os started H enc)
theorem proved : Rows.RecordTornSaid := over
end Go.Proofs.Ytkkelbakadbbhaa.recordTorn
namespace Go.Proofs.Ytkkelbakadbbhaa
/-- The row, under a short name, for the claim. -/
theorem recordTorn_holds : Rows.RecordTornSaid := recordTorn.proved
end Go.Proofs.Ytkkelbakadbbhaa
