/- The statement SegmentChecksSaid: for every input the law SegmentChecks returns true and leaves its arguments as they were; out of what the Go code computes and the plain law. -/
import Derived.Test.YtkkelbakadbbhaaRows
import Derived.Test.YtkkelbakadbbhaaYbrokerlaw32SegmentChecks
import Derived.Test.YtkkelbakadbbhaaO
import Derived.Test.YtkkelbakadbbhaaPureSegmentChecks
import Derived.WalkKit
import Derived.ProofKit
import Derived.OpenShut
import Derived.ShutString
import Derived.ChangeOld
import Derived.Below
import Derived.SizedLaws
namespace Go.Proofs.Ytkkelbakadbbhaa.segmentChecks
open Go.ChangeShapes Go.WideShapes Go.ChangeAt Go.RowKit Go.Proofs.Ytkkelbakadbbhaa.Opn Go.Proofs.YtkkelbakadbbhaaW.PrintWords Go.Proofs.Ytkkelbakadbbhaa.J
open Go.ChangeMaps (open_string shut_string)
set_option linter.unusedVariables false
set_option linter.unusedSimpArgs false
theorem own : ownKnob Try.prog.godebug = none := by kernel_rfl
theorem laidOut : laidOutB Try.prog = true := by kernel_rfl
set_option maxRecDepth 100000 in
theorem lifted (os : Os) (started : os.Started) (H : Type) (enc : TypeId × Value → H) :
    ReturnsInHanded {} Try.checked os 14 .any (Rows.segmentChecksSpec.pre6 enc Try.prog Try.f14 Rows.segmentChecksRow.domain false) (Rows.segmentChecksSpec.post enc Try.prog Try.f14 false true false false) := by
  refine returnsInHanded_of_change_sized (C := Try.checked) own started (by kernel_rfl) Try.func14
    (ChangeSpec.witness6 (enc := enc) (C := Try.checked) false ⟨#[], #[.agg #[.int .i64 0, .int .i64 0, .slice none 0 0]], []⟩ 8 (by kernel_rfl) (by kernel_rfl) (by kernel_rfl) (by kernel_rfl)) ?_
  intro W base args ds gs before hval0 hW hcnd hsz0 _
  have hval : ∀ (j : Nat) t v, Try.f14.params[j]? = some t → args[j]? = some v → Value.okWide Try.prog W .any base t v := hval0
  have hW' := hW
  obtain ⟨p, q, hA0, hV, rfl, hfz, hnd⟩ := hW
  have hA : DataW.TrodAll enc Try.prog W 0 (fun _ => true) true Try.f14.params.toList args.toList ds p := hA0
  rw [Try.params14] at hA hval
  obtain ⟨v0, vs0, d0, ds0, p0, q0, hargs, rfl, rfl, h0, r0⟩ := trodAll_cons hA
  obtain ⟨rfl, rfl, rfl⟩ := trodAll_nil r0
  obtain rfl : args = #[v0] := by cases args; simp_all
  obtain ⟨rfl, rfl⟩ := trodVars_none hV
  have k0 := h0
  have lt0 : ∀ x ∈ p0, x.block < W.heap.size := by obtain ⟨m, hm⟩ := k0; exact DataW.trod_lt m _ _ _ hm
  obtain ⟨cs0, rfl⟩ := okWide_agg Try.underlying43 (hval 0 43 v0 rfl rfl)
  obtain ⟨X0, KX0, WX0⟩ := opens_trod ((opens_struct Try.underlying43 (by kernel_rfl) (opensF_cons rfl (by kernel_rfl) (opens_int Try.underlying3) (opensF_cons rfl (by kernel_rfl) (opens_int Try.underlying3) (opensF_one rfl (by kernel_rfl) (opens_slice Try.underlying28 (opens_int Try.underlying5) (by kernel_rfl)))))) : Opens Try.prog _ 43 _) k0
  obtain ⟨x0_0, rx0_0⟩ := X0
  obtain ⟨lx0_0, mx0_0, Ex0_0, Kx0_0, Rx0_0⟩ := KX0
  obtain ⟨yx0_0, zx0_0⟩ := WX0
  obtain ⟨x0_1, rx0_1⟩ := rx0_0
  obtain ⟨lx0_1, mx0_1, Ex0_1, Kx0_1, Rx0_1⟩ := Rx0_0
  obtain ⟨yx0_1, zx0_1⟩ := zx0_0
  obtain ⟨x0_2, hx0_2⟩ : ∃ q_, q_ = rx0_1 := ⟨_, rfl⟩
  have EEx0_0 : _ = [Value.int .i64 x0_0] := Kx0_0
  have EEx0_1 : _ = [Value.int .i64 x0_1] := Kx0_1
  obtain ⟨Ax0_2, cx0_2, EEx0_2, hcx0_2, hrx0_2⟩ := Rx0_1
  have cse0 : cs0 = #[.int .i64 x0_0, .int .i64 x0_1, .slice Ax0_2 rx0_1.length cx0_2] := by
    apply Array.ext'
    have z_ : (Value.agg cs0).cells.toList = _ := rfl
    simp_all [Value.cells]
  subst cse0
  clear hA0 hval0 hsz0
  obtain ⟨k, hk⟩ := Pure.SegmentChecks _ _ _ yx0_0 yx0_1 zx0_1
  refine (brokerlaw32_SegmentChecks.calls k x0_0 x0_1 Ax0_2 cx0_2 rx0_1 true W hrx0_2 hcx0_2 hk).mono fun e W' ⟨he, bel0⟩ => ?_
  have bel : Below W.heap.size W W' := bel0
  subst he
  exact ⟨_, rfl, _, _, _, [], _, [], hW', trodAll_mk1 (shut_bool Try.underlying4 _), (trodAll_cons_mk (Below.trod laidOut (by kernel_rfl) (of_decide_eq_true (by kernel_rfl)) k0 bel lt0) trodAll_mk0), rfl, bel.frame _, fun h => by cases h⟩
theorem over : Rows.segmentChecksRow.holds Try.pinned (OpenSpec.ofChange Rows.segmentChecksSpec) :=
  OpenClaim.holds_of_wide 14 Try.f14 rfl rfl rfl rfl rfl rfl rfl ⟨rfl, rfl, rfl, rfl, rfl⟩ rfl rfl rfl rfl rfl (by kernel_rfl) Try.func14 (by kernel_rfl)
    (of_decide_eq_true (by kernel_rfl)) (by unfold Func.isWrapper; first | (rw [if_pos (by decide +kernel)]; kernel_rfl) | (rw [if_neg (by decide +kernel)]; exact ⟨rfl, rfl⟩))
    (fun os started H enc _ => lifted os started H enc)
theorem proved : Rows.SegmentChecksSaid := over
end Go.Proofs.Ytkkelbakadbbhaa.segmentChecks
namespace Go.Proofs.Ytkkelbakadbbhaa
/-- The row, under a short name, for the claim. -/
theorem segmentChecks_holds : Rows.SegmentChecksSaid := segmentChecks.proved
end Go.Proofs.Ytkkelbakadbbhaa
