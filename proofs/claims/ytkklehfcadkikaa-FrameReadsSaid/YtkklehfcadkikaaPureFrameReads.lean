/- The law FrameReads, out of what its functions compute. -/
import Derived.Test.YtkklehfcadkikaaFa
import Derived.Test.YtkklehfcadkikaaSg
import Derived.Test.YtkklehfcadkikaaJx15
set_option linter.unusedVariables false
set_option linter.unusedSimpArgs false
namespace Go.Proofs.Ytkklehfcadkikaa.Pure
open Go.RowKit Go.Proofs.YtkklehfcadkikaaW.PrintWords Go.Proofs.YtkklehfcadkikaaW.PrintLast Go.Proofs.YtkklehfcadkikaaW.PrintMore Go.Proofs.Ytkklehfcadkikaa.J Go.Proofs.Ytkklehfcadkikaa.Sp
theorem FrameReads (x0 : List Int) (x1 : Int) : (x0.length ≤ maxLen ∧ ∀ q_ ∈ x0, (Lit.int .u8 q_).wf = true) → ((Lit.int .i64 x1).wf = true) → ∃ k, brokerlaw04_FrameReads.f k x0 x1 = some true := by
  rintro ⟨_, hw⟩ _
  have hb := byt_of_wf hw
  apply Ev.rounds
  unfold brokerlaw04_FrameReads.f
  by_cases h : (x0.length : Int) > 600
  · exact Ev.pos h (Ev.bind awake04 (Ev.now _))
  · refine Ev.neg h (Ev.bind (frame_Next_ev x0 hb (by omega) x1) (Ev.bind (ref4_Next_ev x0 hb (by omega) x1) (Ev.get (ref_Same_self _) (Ev.pos rfl ?_))))
    exact Ev.pos rfl (Ev.pos rfl (Ev.bind awake04 (Ev.now _)))
end Go.Proofs.Ytkklehfcadkikaa.Pure
