/- The law PackTextReads, out of what its functions compute. -/
import Derived.Test.YtkklehfcadkikaaSe
import Derived.Test.YtkklehfcadkikaaSf
import Derived.Test.YtkklehfcadkikaaJx19
set_option linter.unusedVariables false
set_option linter.unusedSimpArgs false
namespace Go.Proofs.Ytkklehfcadkikaa.Pure
open Go.RowKit Go.Proofs.YtkklehfcadkikaaW.PrintWords Go.Proofs.YtkklehfcadkikaaW.PrintLast Go.Proofs.YtkklehfcadkikaaW.PrintMore Go.Proofs.Ytkklehfcadkikaa.J Go.Proofs.Ytkklehfcadkikaa.Sp
theorem PackTextReads (x0 : List Int) (x1 : Int) (x2 : Int) : (x0.length ≤ maxLen ∧ ∀ q_ ∈ x0, (Lit.int .u8 q_).wf = true) → ((Lit.int .i64 x1).wf = true) → ((Lit.int .i64 x2).wf = true) → ∃ k, brokerlaw03_PackTextReads.f k x0 x1 x2 = some true := by
  rintro ⟨_, hw⟩ _ _
  have hb := byt_of_wf hw
  apply Ev.rounds
  unfold brokerlaw03_PackTextReads.f
  by_cases h : (x0.length : Int) > 400
  · exact Ev.pos h (Ev.bind awake03 (Ev.now _))
  · refine Ev.neg h (Ev.bind (pack_Text_ev x0 hb (by omega) x1 x2) (Ev.bind (ref_Text_ev x0 hb (by omega) x1 x2) (Ev.pos rfl (Ev.pos rfl ?_))))
    refine Ev.step (fun k => by simp only [brokerlaw03_PackTextReads.j0]; rw [if_neg (by simp)]) ?_
    refine Ev.bind (pack_Texts_ev x0 hb (by omega) x1 x2) (Ev.bind (ref_Texts_ev x0 hb (by omega) x1 x2) ?_)
    have hl : (rTexts x0 x1 x2).1.length ≤ 4611686018427387904 := by
      by_cases h0 : (rTexts x0 x1 x2).2.2 = 0
      · have h1 := rTexts_ok (L := (rTexts x0 x1 x2).1) (q := (rTexts x0 x1 x2).2.1) hb (by rw [← h0])
        have h2 := cats_ge (rTexts x0 x1 x2).1
        have h3 : ((catl (rTexts x0 x1 x2).1).length : Int) ≥ ((cats (rTexts x0 x1 x2).1).length : Int) := by unfold catl; rw [List.length_append]; omega
        omega
      · rw [rTexts_nil h0]; simp
    exact Ev.bind (same_self _ hl) (Ev.pos rfl (Ev.pos rfl (Ev.pos rfl (Ev.bind awake03 (Ev.now _)))))
end Go.Proofs.Ytkklehfcadkikaa.Pure
