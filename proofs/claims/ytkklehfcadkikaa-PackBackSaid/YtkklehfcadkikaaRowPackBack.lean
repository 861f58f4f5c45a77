/- The statement PackBackSaid: for every input the law PackBack returns true and leaves its arguments as they were; out of what the Go code computes and the plain law. -/
import Derived.Test.YtkklehfcadkikaaRows
import Derived.Test.YtkklehfcadkikaaJbrokerlaw03PackBack
import Derived.Test.YtkklehfcadkikaaO
import Derived.Test.YtkklehfcadkikaaPurePackBack
import Derived.WalkKit
import Derived.ProofKit
import Derived.OpenShut
import Derived.ShutString
import Derived.ChangeOld
import Derived.Below
import Derived.SizedLaws
namespace Go.Proofs.Ytkklehfcadkikaa.packBack
open Go.ChangeShapes Go.WideShapes Go.ChangeAt Go.RowKit Go.Proofs.Ytkklehfcadkikaa.Opn Go.Proofs.YtkklehfcadkikaaW.PrintWords Go.Proofs.Ytkklehfcadkikaa.J
open Go.ChangeMaps (open_string shut_string)
set_option linter.unusedVariables false
set_option linter.unusedSimpArgs false
theorem own : ownKnob Try.prog.godebug = none := by kernel_rfl
theorem laidOut : laidOutB Try.prog = true := by kernel_rfl
set_option maxRecDepth 100000 in
theorem lifted (os : Os) (started : os.Started) (H : Type) (enc : TypeId × Value → H) :
    ReturnsInHanded {} Try.checked os 14 .any (Rows.packBackSpec.pre6 enc Try.prog Try.f14 Rows.packBackRow.domain false) (Rows.packBackSpec.post enc Try.prog Try.f14 false true false false) := by
  refine returnsInHanded_of_change_sized (C := Try.checked) own started (by kernel_rfl) Try.func14
    (ChangeSpec.witness6 (enc := enc) (C := Try.checked) false ⟨#[], #[.agg #[.slice none 0 0, .slice none 0 0, .int .i64 0, .string ByteArray.empty, .slice none 0 0]], []⟩ 8 (by kernel_rfl) (by kernel_rfl) (by kernel_rfl) (by kernel_rfl)) ?_
  intro W base args ds gs before hval0 hW hcnd hsz0 _
  have hval : ∀ (j : Nat) t v, Try.f14.params[j]? = some t → args[j]? = some v → Value.okWide Try.prog W .any base t v := hval0
  have hW' := hW
  obtain ⟨p, q, hA0, hV, rfl, hfz, hnd⟩ := hW
  have hA : DataW.TrodAll enc Try.prog W 0 (fun _ => true) true Try.f14.params.toList args.toList ds p := hA0
  rw [Try.params14] at hA hval
  obtain ⟨v0, vs0, d0, ds0, p0, q0, hargs, rfl, rfl, h0, r0⟩ := trodAll_cons hA
  obtain ⟨rfl, rfl, rfl⟩ := trodAll_nil r0
  obtain rfl : args = #[v0] := by cases args; simp_all
  obtain ⟨rfl, rfl⟩ := trodVars_none hV
  have k0 := h0
  have lt0 : ∀ x ∈ p0, x.block < W.heap.size := by obtain ⟨m, hm⟩ := k0; exact DataW.trod_lt m _ _ _ hm
  obtain ⟨cs0, rfl⟩ := okWide_agg Try.underlying54 (hval 0 54 v0 rfl rfl)
  obtain ⟨X0, KX0, WX0⟩ := opens_trod ((opens_struct Try.underlying54 (by kernel_rfl) (opensF_cons rfl (by kernel_rfl) (opens_slice Try.underlying22 (opens_int Try.underlying5) (by kernel_rfl)) (opensF_cons rfl (by kernel_rfl) (opens_slice Try.underlying22 (opens_int Try.underlying5) (by kernel_rfl)) (opensF_cons rfl (by kernel_rfl) (opens_int Try.underlying3) (opensF_cons rfl (by kernel_rfl) (opens_string Try.underlying9) (opensF_one rfl (by kernel_rfl) (opens_slice Try.underlying30 (opens_string Try.underlying9) (by kernel_rfl)))))))) : Opens Try.prog _ 54 _) k0
  obtain ⟨x0_0, rx0_0⟩ := X0
  obtain ⟨lx0_0, mx0_0, Ex0_0, Kx0_0, Rx0_0⟩ := KX0
  obtain ⟨yx0_0, zx0_0⟩ := WX0
  obtain ⟨x0_1, rx0_1⟩ := rx0_0
  obtain ⟨lx0_1, mx0_1, Ex0_1, Kx0_1, Rx0_1⟩ := Rx0_0
  obtain ⟨yx0_1, zx0_1⟩ := zx0_0
  obtain ⟨x0_2, rx0_2⟩ := rx0_1
  obtain ⟨lx0_2, mx0_2, Ex0_2, Kx0_2, Rx0_2⟩ := Rx0_1
  obtain ⟨yx0_2, zx0_2⟩ := zx0_1
  obtain ⟨x0_3, rx0_3⟩ := rx0_2
  obtain ⟨lx0_3, mx0_3, Ex0_3, Kx0_3, Rx0_3⟩ := Rx0_2
  obtain ⟨yx0_3, zx0_3⟩ := zx0_2
  obtain ⟨x0_4, hx0_4⟩ : ∃ q_, q_ = rx0_3 := ⟨_, rfl⟩
  obtain ⟨Ax0_0, cx0_0, EEx0_0, hcx0_0, hrx0_0⟩ := Kx0_0
  obtain ⟨Ax0_1, cx0_1, EEx0_1, hcx0_1, hrx0_1⟩ := Kx0_1
  have EEx0_2 : _ = [Value.int .i64 x0_2] := Kx0_2
  have EEx0_3 : _ = [Value.string x0_3] := Kx0_3
  obtain ⟨Ax0_4, cx0_4, EEx0_4, hcx0_4, hrx0_4⟩ := Rx0_3
  have cse0 : cs0 = #[.slice Ax0_0 x0_0.length cx0_0, .slice Ax0_1 x0_1.length cx0_1, .int .i64 x0_2, .string x0_3, .slice Ax0_4 rx0_3.length cx0_4] := by
    apply Array.ext'
    have z_ : (Value.agg cs0).cells.toList = _ := rfl
    simp_all [Value.cells]
  subst cse0
  clear hA0 hval0 hsz0
  obtain ⟨k, hk⟩ := Pure.PackBack _ _ _ _ _ yx0_0 yx0_1 yx0_2 yx0_3 zx0_3
  refine (brokerlaw03_PackBack.calls k Ax0_0 cx0_0 x0_0 Ax0_1 cx0_1 x0_1 x0_2 x0_3 Ax0_4 cx0_4 rx0_3 true W hrx0_0 hcx0_0 hrx0_1 hcx0_1 hrx0_4 hcx0_4 hk).mono fun e W' ⟨he, bel0⟩ => ?_
  have bel : Below W.heap.size W W' := bel0
  subst he
  exact ⟨_, rfl, _, _, _, [], _, [], hW', trodAll_mk1 (shut_bool Try.underlying4 _), (trodAll_cons_mk (Below.trod laidOut (by kernel_rfl) (of_decide_eq_true (by kernel_rfl)) k0 bel lt0) trodAll_mk0), rfl, bel.frame _, fun h => by cases h⟩
theorem over : Rows.packBackRow.holds Try.pinned (OpenSpec.ofChange Rows.packBackSpec) :=
  OpenClaim.holds_of_wide 14 Try.f14 rfl rfl rfl rfl rfl rfl rfl ⟨rfl, rfl, rfl, rfl, rfl⟩ rfl rfl rfl rfl rfl (by kernel_rfl) Try.func14 (by kernel_rfl)
    (of_decide_eq_true (by kernel_rfl)) (by unfold Func.isWrapper; first | (rw [if_pos (by decide +kernel)]; kernel_rfl) | (rw [if_neg (by decide +kernel)]; exact ⟨rfl, rfl⟩))
    (fun os started H enc _ => lifted os started H enc)
theorem proved : Rows.PackBackSaid := over
end Go.Proofs.Ytkklehfcadkikaa.packBack
namespace Go.Proofs.Ytkklehfcadkikaa
/-- The row, under a short name, for the claim. -/
theorem packBack_holds : Rows.PackBackSaid := packBack.proved
end Go.Proofs.Ytkklehfcadkikaa
