/- The statement SegmentReadsSaid: for every input the law SegmentReads returns true and leaves its arguments as they were; out of what the Go code computes and the plain law. -/
import Derived.Test.YtkkelbakadbbhaaRows
import Derived.Test.YtkkelbakadbbhaaYbrokerlaw32SegmentReads
import Derived.Test.YtkkelbakadbbhaaO
import Derived.Test.YtkkelbakadbbhaaPureSegmentReads
import Derived.WalkKit
import Derived.ProofKit
import Derived.OpenShut
import Derived.ShutString
import Derived.ChangeOld
import Derived.Below
import Derived.SizedLaws
namespace Go.Proofs.Ytkkelbakadbbhaa.segmentReads
open Go.ChangeShapes Go.WideShapes Go.ChangeAt Go.RowKit Go.Proofs.Ytkkelbakadbbhaa.Opn Go.Proofs.YtkkelbakadbbhaaW.PrintWords Go.Proofs.Ytkkelbakadbbhaa.J
open Go.ChangeMaps (open_string shut_string)
set_option linter.unusedVariables false
set_option linter.unusedSimpArgs false
theorem own : ownKnob Try.prog.godebug = none := by kernel_rfl
theorem laidOut : laidOutB Try.prog = true := by kernel_rfl
set_option maxRecDepth 100000 in
theorem lifted (os : Os) (started : os.Started) (H : Type) (enc : TypeId × Value → H) :
    ReturnsInHanded {} Try.checked os 16 .any (Rows.segmentReadsSpec.pre6 enc Try.prog Try.f16 Rows.segmentReadsRow.domain false) (Rows.segmentReadsSpec.post enc Try.prog Try.f16 false true false false) := by
  refine returnsInHanded_of_change_sized (C := Try.checked) own started (by kernel_rfl) Try.func16
    (ChangeSpec.witness6 (enc := enc) (C := Try.checked) false ⟨#[], #[.agg #[.int .i64 0, .int .i64 0, .slice none 0 0], .int .i64 0], []⟩ 8 (by kernel_rfl) (by kernel_rfl) (by kernel_rfl) (by kernel_rfl)) ?_
  intro W base args ds gs before hval0 hW hcnd hsz0 _
  have hval : ∀ (j : Nat) t v, Try.f16.params[j]? = some t → args[j]? = some v → Value.okWide Try.prog W .any base t v := hval0
  have hW' := hW
  obtain ⟨p, q, hA0, hV, rfl, hfz, hnd⟩ := hW
  have hA : DataW.TrodAll enc Try.prog W 0 (fun _ => true) true Try.f16.params.toList args.toList ds p := hA0
  rw [Try.params16] at hA hval
  obtain ⟨v0, vs0, d0, ds0, p0, q0, hargs, rfl, rfl, h0, r0⟩ := trodAll_cons hA
  obtain ⟨v1, vs1, d1, ds1, p1, q1, rfl, rfl, rfl, h1, r1⟩ := trodAll_cons r0
  obtain ⟨rfl, rfl, rfl⟩ := trodAll_nil r1
  obtain rfl : args = #[v0, v1] := by cases args; simp_all
  obtain ⟨rfl, rfl⟩ := trodVars_none hV
  have k0 := h0
  have lt0 : ∀ x ∈ p0, x.block < W.heap.size := by obtain ⟨m, hm⟩ := k0; exact DataW.trod_lt m _ _ _ hm
  obtain ⟨cs0, rfl⟩ := okWide_agg Try.underlying43 (hval 0 43 v0 rfl rfl)
  obtain ⟨X0, KX0, WX0⟩ := opens_trod ((opens_struct Try.underlying43 (by kernel_rfl) (opensF_cons rfl (by kernel_rfl) (opens_int Try.underlying3) (opensF_cons rfl (by kernel_rfl) (opens_int Try.underlying3) (opensF_one rfl (by kernel_rfl) (opens_slice Try.underlying28 (opens_int Try.underlying5) (by kernel_rfl)))))) : Opens Try.prog _ 43 _) k0
  obtain ⟨x0_0, rx0_0⟩ := X0
  obtain ⟨lx0_0, mx0_0, Ex0_0, Kx0_0, Rx0_0⟩ := KX0
  obtain ⟨yx0_0, zx0_0⟩ := WX0
  obtain ⟨x0_1, rx0_1⟩ := rx0_0
  obtain ⟨lx0_1, mx0_1, Ex0_1, Kx0_1, Rx0_1⟩ := Rx0_0
  obtain ⟨yx0_1, zx0_1⟩ := zx0_0
  obtain ⟨x0_2, hx0_2⟩ : ∃ q_, q_ = rx0_1 := ⟨_, rfl⟩
  have EEx0_0 : _ = [Value.int .i64 x0_0] := Kx0_0
  have EEx0_1 : _ = [Value.int .i64 x0_1] := Kx0_1
  obtain ⟨Ax0_2, cx0_2, EEx0_2, hcx0_2, hrx0_2⟩ := Rx0_1
  have cse0 : cs0 = #[.int .i64 x0_0, .int .i64 x0_1, .slice Ax0_2 rx0_1.length cx0_2] := by
    apply Array.ext'
    have z_ : (Value.agg cs0).cells.toList = _ := rfl
    simp_all [Value.cells]
  subst cse0
  obtain ⟨x1, rfl, rfl, rfl, y1⟩ := open_int Try.underlying3 (hval 1 3 v1 rfl rfl) h1
  clear hA0 hval0 hsz0
  obtain ⟨k, hk⟩ := Pure.SegmentReads _ _ _ _ yx0_0 yx0_1 zx0_1 y1
  refine (brokerlaw32_SegmentReads.calls k x0_0 x0_1 Ax0_2 cx0_2 rx0_1 x1 true W hrx0_2 hcx0_2 hk).mono fun e W' ⟨he, bel0⟩ => ?_
  have bel : Below W.heap.size W W' := bel0
  subst he
  exact ⟨_, rfl, _, _, _, [], _, [], hW', trodAll_mk1 (shut_bool Try.underlying4 _), (trodAll_cons_mk (Below.trod laidOut (by kernel_rfl) (of_decide_eq_true (by kernel_rfl)) k0 bel lt0) (trodAll_cons_mk (shut_int Try.underlying3 y1) trodAll_mk0)), rfl, bel.frame _, fun h => by cases h⟩
theorem over : Rows.segmentReadsRow.holds Try.pinned (OpenSpec.ofChange Rows.segmentReadsSpec) :=
  OpenClaim.holds_of_wide 16 Try.f16 rfl rfl rfl rfl rfl rfl rfl ⟨rfl, rfl, rfl, rfl, rfl⟩ rfl rfl rfl rfl rfl (by kernel_rfl) Try.func16 (by kernel_rfl)
    (of_decide_eq_true (by kernel_rfl)) (by unfold Func.isWrapper; first | (rw [if_pos (by decide +kernel)]; kernel_rfl) | (rw [if_neg (by decide +kernel)]; exact ⟨rfl, rfl⟩))
    (fun os started H enc _ => lifted os started H enc)
theorem proved : Rows.SegmentReadsSaid := over
end Go.Proofs.Ytkkelbakadbbhaa.segmentReads
namespace Go.Proofs.Ytkkelbakadbbhaa
/-- The row, under a short name, for the claim. -/
theorem segmentReads_holds : Rows.SegmentReadsSaid := segmentReads.proved
end Go.Proofs.Ytkkelbakadbbhaa
