/- The law FrameWraps, out of what its functions compute. -/
import Derived.Test.YtkklehfcadkikaaFa
import Derived.Test.YtkklehfcadkikaaSg
import Derived.Test.YtkklehfcadkikaaJx13
set_option linter.unusedVariables false
set_option linter.unusedSimpArgs false
namespace Go.Proofs.Ytkklehfcadkikaa.Pure
open Go.RowKit Go.Proofs.YtkklehfcadkikaaW.PrintWords Go.Proofs.YtkklehfcadkikaaW.PrintLast Go.Proofs.YtkklehfcadkikaaW.PrintMore Go.Proofs.Ytkklehfcadkikaa.J Go.Proofs.Ytkklehfcadkikaa.Sp
theorem FrameWraps (x0 : List Int) (x1 : Int) : (x0.length ≤ maxLen ∧ ∀ q_ ∈ x0, (Lit.int .u8 q_).wf = true) → ((Lit.int .i64 x1).wf = true) → ∃ k, brokerlaw04_FrameWraps.f k x0 x1 = some true := by
  rintro ⟨_, hw⟩ _
  have hb := byt_of_wf hw
  apply Ev.rounds
  unfold brokerlaw04_FrameWraps.f
  by_cases h : (x0.length : Int) > 600
  · exact Ev.pos h (Ev.bind awake04 (Ev.now _))
  · refine Ev.neg h (Ev.bind (frame_Wrap_ev x0 hb (by omega)) (Ev.bind (ref4_Wrap_ev x0 hb (by omega)) (Ev.get (ref_Same_self _) (Ev.pos rfl ?_))))
    refine Ev.bind (frame_Size_ev _) (Ev.pos (sizeF_len x0 (by omega)) ?_)
    exact Ev.bind (frame_Size_ev x1) (Ev.bind (ref4_Size_ev x1) (Ev.pos rfl (Ev.bind awake04 (Ev.now _))))
end Go.Proofs.Ytkklehfcadkikaa.Pure
