/- The law PackNums, out of what its functions compute. -/
import Derived.Test.YtkklehfcadkikaaSd
import Derived.Test.YtkklehfcadkikaaSf
import Derived.Test.YtkklehfcadkikaaJx5
set_option linter.unusedVariables false
set_option linter.unusedSimpArgs false
namespace Go.Proofs.Ytkklehfcadkikaa.Pure
open Go.RowKit Go.Proofs.YtkklehfcadkikaaW.PrintWords Go.Proofs.YtkklehfcadkikaaW.PrintLast Go.Proofs.YtkklehfcadkikaaW.PrintMore Go.Proofs.Ytkklehfcadkikaa.J Go.Proofs.Ytkklehfcadkikaa.Sp
theorem PackNums (x0 : List Int) (x1 : Int) : (x0.length ≤ maxLen ∧ ∀ q_ ∈ x0, (Lit.int .u8 q_).wf = true) → ((Lit.int .i64 x1).wf = true) → ∃ k, brokerlaw03_PackNums.f k x0 x1 = some true := by
  rintro ⟨_, hw⟩ hn
  have hb := byt_of_wf hw
  obtain ⟨n0, n1⟩ := wf64 hn
  apply Ev.rounds
  unfold brokerlaw03_PackNums.f
  by_cases h : (x0.length : Int) > 400
  · exact Ev.pos h (Ev.bind awake03 (Ev.now _))
  · refine Ev.neg h (Ev.get (x := ([] : List Int)) rfl (Ev.pos (by simp; omega) (Ev.get rfl ?_)))
    rw [List.nil_append]
    refine Ev.bind (pack_PutNum_ev x0 x1 n0 n1 (by omega)) (Ev.bind (ref_PutNum_ev x0 x1 n0 n1 (by omega)) ?_)
    exact Ev.get (ref_Same_self _) (Ev.pos rfl (Ev.get (ref_Same_self _) (Ev.pos rfl (Ev.bind awake03 (Ev.now _)))))
end Go.Proofs.Ytkklehfcadkikaa.Pure
