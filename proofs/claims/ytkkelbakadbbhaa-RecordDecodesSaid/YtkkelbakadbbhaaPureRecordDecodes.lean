/- The law RecordDecodes, out of what its functions compute. -/
import Derived.Test.YtkkelbakadbbhaaBR
import Derived.Test.YtkkelbakadbbhaaRb
import Derived.Test.YtkkelbakadbbhaaYbrokerlaw31RecordDecodes
set_option linter.unusedVariables false
set_option linter.unusedSimpArgs false
namespace Go.Proofs.Ytkkelbakadbbhaa.Pure
open Go.RowKit Go.Proofs.YtkkelbakadbbhaaW.PrintWords Go.Proofs.YtkkelbakadbbhaaW.PrintLast Go.Proofs.YtkkelbakadbbhaaW.PrintMore Go.Proofs.Ytkkelbakadbbhaa.J Go.Proofs.Ytkkelbakadbbhaa.Sp
theorem RecordDecodes (x0 : List Int) (x1 : Int) : (x0.length ≤ maxLen ∧ ∀ q_ ∈ x0, (Lit.int .u8 q_).wf = true) → ((Lit.int .i64 x1).wf = true) → ∃ k, brokerlaw31_RecordDecodes.f k x0 x1 = some true := by
  rintro ⟨_, hw⟩ _
  have hb := byt_of_wf hw
  apply Ev.rounds
  unfold brokerlaw31_RecordDecodes.f
  by_cases h : (x0.length : Int) > 5000
  · exact Ev.pos h (Ev.bind awake31 (Ev.now _))
  · refine Ev.neg h (Ev.bind (record_Decode_ev x0 hb (by omega) x1) (Ev.bind (ref31_Decode_ev x0 hb (by omega) x1) ?_))
    exact Ev.pos (by simp) (Ev.pos rfl (Ev.pos rfl (Ev.bind awake31 (Ev.now _))))
end Go.Proofs.Ytkkelbakadbbhaa.Pure
