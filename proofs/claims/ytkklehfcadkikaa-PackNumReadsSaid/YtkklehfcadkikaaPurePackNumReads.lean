/- The law PackNumReads, out of what its functions compute. -/
import Derived.Test.YtkklehfcadkikaaSd
import Derived.Test.YtkklehfcadkikaaSf
import Derived.Test.YtkklehfcadkikaaJx6
set_option linter.unusedVariables false
set_option linter.unusedSimpArgs false
namespace Go.Proofs.Ytkklehfcadkikaa.Pure
open Go.RowKit Go.Proofs.YtkklehfcadkikaaW.PrintWords Go.Proofs.YtkklehfcadkikaaW.PrintLast Go.Proofs.YtkklehfcadkikaaW.PrintMore Go.Proofs.Ytkklehfcadkikaa.J Go.Proofs.Ytkklehfcadkikaa.Sp
theorem PackNumReads (x0 : List Int) (x1 : Int) : (x0.length ≤ maxLen ∧ ∀ q_ ∈ x0, (Lit.int .u8 q_).wf = true) → ((Lit.int .i64 x1).wf = true) → ∃ k, brokerlaw03_PackNumReads.f k x0 x1 = some true := by
  rintro ⟨_, hw⟩ hn
  have hb := byt_of_wf hw
  apply Ev.rounds
  unfold brokerlaw03_PackNumReads.f
  by_cases h : (x0.length : Int) > 400
  · exact Ev.pos h (Ev.bind awake03 (Ev.now _))
  · refine Ev.neg h (Ev.bind (pack_Num_ev x0 hb (by omega) x1) (Ev.bind (ref_Num_ev x0 hb (by omega) x1) ?_))
    exact Ev.pos rfl (Ev.pos rfl (Ev.pos rfl (Ev.bind awake03 (Ev.now _))))
end Go.Proofs.Ytkklehfcadkikaa.Pure
