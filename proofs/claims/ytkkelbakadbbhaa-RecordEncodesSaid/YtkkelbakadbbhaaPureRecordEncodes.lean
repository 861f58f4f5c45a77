/- The law RecordEncodes, out of what its functions compute. -/
import Derived.Test.YtkkelbakadbbhaaRb
import Derived.Test.YtkkelbakadbbhaaJbrokerlaw31RecordEncodes
set_option linter.unusedVariables false
set_option linter.unusedSimpArgs false
namespace Go.Proofs.Ytkkelbakadbbhaa.Pure
open Go.RowKit Go.Proofs.YtkkelbakadbbhaaW.PrintWords Go.Proofs.YtkkelbakadbbhaaW.PrintLast Go.Proofs.YtkkelbakadbbhaaW.PrintMore Go.Proofs.Ytkkelbakadbbhaa.J Go.Proofs.Ytkkelbakadbbhaa.Sp
theorem RecordEncodes (x0_0 : Int) (x0_1 : Int) (x0_2 : ByteArray) (x0_3 : ByteArray) : ((Lit.int .i64 x0_0).wf = true) → ((Lit.int .i64 x0_1).wf = true) → (x0_2.size ≤ maxLen) → (x0_3.size ≤ maxLen) → ∃ k, brokerlaw31_RecordEncodes.f k x0_0 x0_1 x0_2 x0_3 = some true := by
  intro _ _ _ _
  apply Ev.rounds
  unfold brokerlaw31_RecordEncodes.f
  obtain ⟨b, hb⟩ := small31 x0_0 x0_1 x0_2 x0_3
  refine Ev.get hb ?_
  by_cases h : b = true
  · exact Ev.pos h (Ev.bind (record_Encode_ev _ _ _ _) (Ev.bind (ref31_Encode_ev _ _ _ _) (Ev.get (ref_Same_self _) (Ev.pos rfl (Ev.pos rfl (Ev.bind (record_Size_ev _ _ _ _) (Ev.pos rfl (Ev.bind awake31 (Ev.now _)))))))))
  · exact Ev.neg h (Ev.bind awake31 (Ev.now _))
end Go.Proofs.Ytkkelbakadbbhaa.Pure
