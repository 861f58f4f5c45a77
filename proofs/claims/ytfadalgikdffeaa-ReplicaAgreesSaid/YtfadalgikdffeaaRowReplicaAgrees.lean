/- The statement ReplicaAgreesSaid: for every input the law ReplicaAgrees returns true and leaves its arguments as they were; out of what the Go code computes and the plain law. -/
import Derived.Test.YtfadalgikdffeaaRows
import Derived.Test.YtfadalgikdffeaaLReplicaAgrees
import Derived.WalkKit
import Derived.ProofKit
import Derived.OpenShut
import Derived.ShutString
import Derived.ChangeOld
import Derived.Below
import Derived.SizedLaws
import Derived.KernelRfl
namespace Go.Proofs.Ytfadalgikdffeaa.replicaAgrees
open Go.ChangeShapes Go.WideShapes Go.ChangeAt Go.RowKit Go.EV Go.Proofs.Ytfadalgikdffeaa.EVT
open Go.ChangeMaps (open_string shut_string)
set_option linter.unusedVariables false
set_option linter.unusedSimpArgs false
theorem own : ownKnob Try.prog.godebug = none := by kernel_rfl
theorem laidOut : laidOutB Try.prog = true := by kernel_rfl
set_option maxRecDepth 100000 in
theorem lifted (os : Os) (started : os.Started) (H : Type) (enc : TypeId × Value → H) :
    ReturnsInHanded {} Try.checked os 5 .any (Rows.replicaAgreesSpec.pre6 enc Try.prog Try.f5 Rows.replicaAgreesRow.domain false) (Rows.replicaAgreesSpec.post enc Try.prog Try.f5 false true false false) := by
  refine returnsInHanded_of_change_sized (C := Try.checked) own started (by kernel_rfl) Try.func5
    (ChangeSpec.witness6 (enc := enc) (C := Try.checked) false ⟨#[], #[.int .i64 0, .slice none 0 0], []⟩ 8 (by kernel_rfl) (by kernel_rfl) (by kernel_rfl) (by kernel_rfl)) ?_
  intro W base args ds gs before hval0 hW hcnd hsz0 _
  have hval : ∀ (j : Nat) t v, Try.f5.params[j]? = some t → args[j]? = some v → Value.okWide Try.prog W .any base t v := hval0
  have hW' := hW
  obtain ⟨p, q, hA0, hV, rfl, hfz, hnd⟩ := hW
  have hA : DataW.TrodAll enc Try.prog W 0 (fun _ => true) true Try.f5.params.toList args.toList ds p := hA0
  rw [Try.params5] at hA hval
  obtain ⟨v0, vs0, d0, ds0, p0, q0, hargs, rfl, rfl, h0, r0⟩ := trodAll_cons hA
  obtain ⟨v1, vs1, d1, ds1, p1, q1, rfl, rfl, rfl, h1, r1⟩ := trodAll_cons r0
  obtain ⟨rfl, rfl, rfl⟩ := trodAll_nil r1
  obtain rfl : args = #[v0, v1] := by cases args; simp_all
  obtain ⟨rfl, rfl⟩ := trodVars_none hV
  have k0 := h0
  have lt0 : ∀ x ∈ p0, x.block < W.heap.size := by obtain ⟨m, hm⟩ := k0; exact DataW.trod_lt m _ _ _ hm
  obtain ⟨x0, y0, c0⟩ := arg_open (n := 6) (t := 3) tok.1 tok.2 (by kernel_rfl) (hval 0 3 v0 rfl rfl) h0
  have k1 := h1
  have lt1 : ∀ x ∈ p1, x.block < W.heap.size := by obtain ⟨m, hm⟩ := k1; exact DataW.trod_lt m _ _ _ hm
  obtain ⟨x1, y1, c1⟩ := arg_open (n := 6) (t := 54) tok.1 tok.2 (by kernel_rfl) (hval 1 54 v1 rfl rfl) h1
  clear hA0 hval0 hsz0
  obtain ⟨a0, rfl, b0⟩ := typed 60 3 (.i .i64) 6 x0 (by kernel_rfl) y0
  obtain ⟨a1, rfl, b1⟩ := typed 60 54 (.sl (.st (.pr (.i .i64) (.pr (.i .i64) (.i .i64))))) 6 x1 (by kernel_rfl) y1
  refine (law_callsT (inf := i5) (a := (a0, a1)) (v := true) k5 (EVT.ReplicaAgrees b0 b1) rfl (.cons c0 (.cons c1 .nil))).mono fun e W' ⟨he, bel0⟩ => ?_
  have bel : Below W.heap.size W W' := bel0
  subst he
  exact ⟨_, rfl, _, _, _, [], _, [], hW', trodAll_mk1 (shut_bool Try.underlying4 _), (trodAll_cons_mk (Below.trod laidOut (by kernel_rfl) (of_decide_eq_true (by kernel_rfl)) k0 bel lt0) (trodAll_cons_mk (Below.trod laidOut (by kernel_rfl) (of_decide_eq_true (by kernel_rfl)) k1 bel lt1) trodAll_mk0)), rfl, bel.frame _, fun h => by cases h⟩
theorem over : Rows.replicaAgreesRow.holds Try.pinned (OpenSpec.ofChange Rows.replicaAgreesSpec) :=
  OpenClaim.holds_of_wide 5 Try.f5 rfl rfl rfl rfl rfl rfl rfl ⟨rfl, rfl, rfl, rfl, rfl⟩ rfl rfl rfl rfl rfl (by kernel_rfl) Try.func5 (by kernel_rfl)
    (of_decide_eq_true (by kernel_rfl)) (by unfold Func.isWrapper; first | (rw [if_pos (by decide +kernel)]; kernel_rfl) | (rw [if_neg (by decide +kernel)]; exact ⟨rfl, rfl⟩))
    (fun os started H enc _ => lifted os started H enc)
theorem proved : Rows.ReplicaAgreesSaid := over
end Go.Proofs.Ytfadalgikdffeaa.replicaAgrees
namespace Go.Proofs.Ytfadalgikdffeaa
/-- The row, under a short name, for the claim. -/
theorem replicaAgrees_holds : Rows.ReplicaAgreesSaid := replicaAgrees.proved
end Go.Proofs.Ytfadalgikdffeaa
