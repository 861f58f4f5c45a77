/- The statement RecordBackSaid: for every input the law RecordBack returns true and leaves its arguments as they were; out of what the Go code computes and the plain law. -/
import Derived.Test.YtkkelbakadbbhaaRows
import Derived.Test.YtkkelbakadbbhaaJbrokerlaw31RecordBack
import Derived.Test.YtkkelbakadbbhaaO
import Derived.Test.YtkkelbakadbbhaaPureRecordBack
import Derived.WalkKit
import Derived.ProofKit
import Derived.OpenShut
import Derived.ShutString
import Derived.ChangeOld
import Derived.Below
import Derived.SizedLaws
namespace Go.Proofs.Ytkkelbakadbbhaa.recordBack
open Go.ChangeShapes Go.WideShapes Go.ChangeAt Go.RowKit Go.Proofs.Ytkkelbakadbbhaa.Opn Go.Proofs.YtkkelbakadbbhaaW.PrintWords Go.Proofs.Ytkkelbakadbbhaa.J
open Go.ChangeMaps (open_string shut_string)
set_option linter.unusedVariables false
set_option linter.unusedSimpArgs false
theorem own : ownKnob Try.prog.godebug = none := by kernel_rfl
theorem laidOut : laidOutB Try.prog = true := by kernel_rfl
set_option maxRecDepth 100000 in
theorem lifted (os : Os) (started : os.Started) (H : Type) (enc : TypeId × Value → H) :
    ReturnsInHanded {} Try.checked os 6 .any (Rows.recordBackSpec.pre6 enc Try.prog Try.f6 Rows.recordBackRow.domain false) (Rows.recordBackSpec.post enc Try.prog Try.f6 false true false false) := by
  refine returnsInHanded_of_change_sized (C := Try.checked) own started (by kernel_rfl) Try.func6
    (ChangeSpec.witness6 (enc := enc) (C := Try.checked) false ⟨#[], #[.slice none 0 0, .agg #[.int .i64 0, .int .i64 0, .string ByteArray.empty, .string ByteArray.empty], .slice none 0 0], []⟩ 8 (by kernel_rfl) (by kernel_rfl) (by kernel_rfl) (by kernel_rfl)) ?_
  intro W base args ds gs before hval0 hW hcnd hsz0 _
  have hval : ∀ (j : Nat) t v, Try.f6.params[j]? = some t → args[j]? = some v → Value.okWide Try.prog W .any base t v := hval0
  have hW' := hW
  obtain ⟨p, q, hA0, hV, rfl, hfz, hnd⟩ := hW
  have hA : DataW.TrodAll enc Try.prog W 0 (fun _ => true) true Try.f6.params.toList args.toList ds p := hA0
  rw [Try.params6] at hA hval
  obtain ⟨v0, vs0, d0, ds0, p0, q0, hargs, rfl, rfl, h0, r0⟩ := trodAll_cons hA
  obtain ⟨v1, vs1, d1, ds1, p1, q1, rfl, rfl, rfl, h1, r1⟩ := trodAll_cons r0
  obtain ⟨v2, vs2, d2, ds2, p2, q2, rfl, rfl, rfl, h2, r2⟩ := trodAll_cons r1
  obtain ⟨rfl, rfl, rfl⟩ := trodAll_nil r2
  obtain rfl : args = #[v0, v1, v2] := by cases args; simp_all
  obtain ⟨rfl, rfl⟩ := trodVars_none hV
  have k0 := h0
  have lt0 : ∀ x ∈ p0, x.block < W.heap.size := by obtain ⟨m, hm⟩ := k0; exact DataW.trod_lt m _ _ _ hm
  obtain ⟨a0, len0, cap0, rfl⟩ := okWide_slice Try.underlying28 (hval 0 28 v0 rfl rfl)
  obtain ⟨x0, ⟨A0, c0, e0, hc0, hr0⟩, y0⟩ := opens_trod ((opens_slice Try.underlying28 (opens_int Try.underlying5) (by kernel_rfl)) : Opens Try.prog (Kd.slice 5 (Kd.int .u8)) 28 _) k0
  simp only [Value.cells, List.cons.injEq, Value.slice.injEq, and_true] at e0
  obtain ⟨rfl, rfl, rfl⟩ := e0
  have k1 := h1
  have lt1 : ∀ x ∈ p1, x.block < W.heap.size := by obtain ⟨m, hm⟩ := k1; exact DataW.trod_lt m _ _ _ hm
  obtain ⟨cs1, rfl⟩ := okWide_agg Try.underlying23 (hval 1 23 v1 rfl rfl)
  obtain ⟨X1, KX1, WX1⟩ := opens_trod ((opens_struct Try.underlying23 (by kernel_rfl) (opensF_cons rfl (by kernel_rfl) (opens_int Try.underlying3) (opensF_cons rfl (by kernel_rfl) (opens_int Try.underlying3) (opensF_cons rfl (by kernel_rfl) (opens_string Try.underlying9) (opensF_one rfl (by kernel_rfl) (opens_string Try.underlying9)))))) : Opens Try.prog _ 23 _) k1
  obtain ⟨x1_0, rx1_0⟩ := X1
  obtain ⟨lx1_0, mx1_0, Ex1_0, Kx1_0, Rx1_0⟩ := KX1
  obtain ⟨yx1_0, zx1_0⟩ := WX1
  obtain ⟨x1_1, rx1_1⟩ := rx1_0
  obtain ⟨lx1_1, mx1_1, Ex1_1, Kx1_1, Rx1_1⟩ := Rx1_0
  obtain ⟨yx1_1, zx1_1⟩ := zx1_0
  obtain ⟨x1_2, rx1_2⟩ := rx1_1
  obtain ⟨lx1_2, mx1_2, Ex1_2, Kx1_2, Rx1_2⟩ := Rx1_1
  obtain ⟨yx1_2, zx1_2⟩ := zx1_1
  obtain ⟨x1_3, hx1_3⟩ : ∃ q_, q_ = rx1_2 := ⟨_, rfl⟩
  have EEx1_0 : _ = [Value.int .i64 x1_0] := Kx1_0
  have EEx1_1 : _ = [Value.int .i64 x1_1] := Kx1_1
  have EEx1_2 : _ = [Value.string x1_2] := Kx1_2
  have EEx1_3 : _ = [Value.string rx1_2] := Rx1_2
  have cse1 : cs1 = #[.int .i64 x1_0, .int .i64 x1_1, .string x1_2, .string rx1_2] := by
    apply Array.ext'
    have z_ : (Value.agg cs1).cells.toList = _ := rfl
    simp_all [Value.cells]
  subst cse1
  have k2 := h2
  have lt2 : ∀ x ∈ p2, x.block < W.heap.size := by obtain ⟨m, hm⟩ := k2; exact DataW.trod_lt m _ _ _ hm
  obtain ⟨a2, len2, cap2, rfl⟩ := okWide_slice Try.underlying28 (hval 2 28 v2 rfl rfl)
  obtain ⟨x2, ⟨A2, c2, e2, hc2, hr2⟩, y2⟩ := opens_trod ((opens_slice Try.underlying28 (opens_int Try.underlying5) (by kernel_rfl)) : Opens Try.prog (Kd.slice 5 (Kd.int .u8)) 28 _) k2
  simp only [Value.cells, List.cons.injEq, Value.slice.injEq, and_true] at e2
  obtain ⟨rfl, rfl, rfl⟩ := e2
  clear hA0 hval0 hsz0
  obtain ⟨k, hk⟩ := Pure.RecordBack _ _ _ _ _ _ y0 yx1_0 yx1_1 yx1_2 zx1_2 y2
  refine (brokerlaw31_RecordBack.calls k _ _ x0 x1_0 x1_1 x1_2 rx1_2 _ _ x2 true W hr0 hc0 hr2 hc2 hk).mono fun e W' ⟨he, bel0⟩ => ?_
  have bel : Below W.heap.size W W' := bel0
  subst he
  exact ⟨_, rfl, _, _, _, [], _, [], hW', trodAll_mk1 (shut_bool Try.underlying4 _), (trodAll_cons_mk (Below.trod laidOut (by kernel_rfl) (of_decide_eq_true (by kernel_rfl)) k0 bel lt0) (trodAll_cons_mk (Below.trod laidOut (by kernel_rfl) (of_decide_eq_true (by kernel_rfl)) k1 bel lt1) (trodAll_cons_mk (Below.trod laidOut (by kernel_rfl) (of_decide_eq_true (by kernel_rfl)) k2 bel lt2) trodAll_mk0))), rfl, bel.frame _, fun h => by cases h⟩
theorem over : Rows.recordBackRow.holds Try.pinned (OpenSpec.ofChange Rows.recordBackSpec) :=
  OpenClaim.holds_of_wide 6 Try.f6 rfl rfl rfl rfl rfl rfl rfl ⟨rfl, rfl, rfl, rfl, rfl⟩ rfl rfl rfl rfl rfl (by kernel_rfl) Try.func6 (by kernel_rfl)
    (of_decide_eq_true (by kernel_rfl)) (by unfold Func.isWrapper; first | (rw [if_pos (by decide +kernel)]; kernel_rfl) | (rw [if_neg (by decide +kernel)]; exact ⟨rfl, rfl⟩))
    (fun os started H enc _ => lifted os started H enc)
theorem proved : Rows.RecordBackSaid := over
end Go.Proofs.Ytkkelbakadbbhaa.recordBack
namespace Go.Proofs.Ytkkelbakadbbhaa
/-- The row, under a short name, for the claim. -/
theorem recordBack_holds : Rows.RecordBackSaid := recordBack.proved
end Go.Proofs.Ytkkelbakadbbhaa
