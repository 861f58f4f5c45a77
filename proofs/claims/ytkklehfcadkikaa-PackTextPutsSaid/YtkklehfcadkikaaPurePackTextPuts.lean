/- The law PackTextPuts, out of what its functions compute. -/
import Derived.Test.YtkklehfcadkikaaSe
import Derived.Test.YtkklehfcadkikaaSf
import Derived.Test.YtkklehfcadkikaaJx8
set_option linter.unusedVariables false
set_option linter.unusedSimpArgs false
namespace Go.Proofs.Ytkklehfcadkikaa.Pure
open Go.RowKit Go.Proofs.YtkklehfcadkikaaW.PrintWords Go.Proofs.YtkklehfcadkikaaW.PrintLast Go.Proofs.YtkklehfcadkikaaW.PrintMore Go.Proofs.Ytkklehfcadkikaa.J Go.Proofs.Ytkklehfcadkikaa.Sp
theorem PackTextPuts (x0 : List Int) (x1 : ByteArray) (x2 : List ByteArray) : (x0.length ≤ maxLen ∧ ∀ q_ ∈ x0, (Lit.int .u8 q_).wf = true) → (x1.size ≤ maxLen) → (x2.length ≤ maxLen ∧ ∀ q_ ∈ x2, q_.size ≤ maxLen) → ∃ k, brokerlaw03_PackTextPuts.f k x0 x1 x2 = some true := by
  rintro ⟨_, hw⟩ _ _
  have hb := byt_of_wf hw
  apply Ev.rounds
  have out : Ev (fun k => brokerlaw03_PackTextPuts.j0 k x0 x1 x2 true) true := by
    refine Ev.step (fun k => by simp only [brokerlaw03_PackTextPuts.j0, if_true]) (Ev.bind awake03 (Ev.now _))
  unfold brokerlaw03_PackTextPuts.f
  by_cases h : (x0.length : Int) > 400
  · exact Ev.pos h out
  · refine Ev.neg h ?_
    by_cases h1 : (x1.size : Int) > 400
    · exact Ev.pos h1 out
    · refine Ev.neg h1 ?_
      obtain ⟨r, hr, hs⟩ := short_ev x2
      refine Ev.bind hr ?_
      cases r with
      | false => exact out
      | true =>
        obtain ⟨hl, hsh⟩ := hs rfl
        refine Ev.step (fun k => by simp only [brokerlaw03_PackTextPuts.j0]; rw [if_neg (by simp)]) ?_
        refine Ev.bind (pack_PutText_ev x0 x1 (by omega) (by omega)) (Ev.bind (ref_PutText_ev x0 x1 (by omega) (by omega)) (Ev.get (ref_Same_self _) (Ev.pos rfl ?_)))
        refine Ev.bind (pack_PutTexts_ev x0 x2 400 (by omega) hsh (by omega) (by omega)) (Ev.bind (ref_PutTexts_ev x0 x2 400 (by omega) hsh (by omega) (by omega)) ?_)
        exact Ev.get (ref_Same_self _) (Ev.pos rfl (Ev.bind awake03 (Ev.now _)))
end Go.Proofs.Ytkklehfcadkikaa.Pure
