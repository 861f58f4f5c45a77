/- The law FrameOnly, out of what its functions compute. -/
import Derived.Test.YtkklehfcadkikaaFb
import Derived.Test.YtkklehfcadkikaaSg
import Derived.Test.YtkklehfcadkikaaJbrokerlaw04FrameOnly
set_option linter.unusedVariables false
set_option linter.unusedSimpArgs false
namespace Go.Proofs.Ytkklehfcadkikaa.Pure
open Go.RowKit Go.Proofs.YtkklehfcadkikaaW.PrintWords Go.Proofs.YtkklehfcadkikaaW.PrintLast Go.Proofs.YtkklehfcadkikaaW.PrintMore Go.Proofs.Ytkklehfcadkikaa.J Go.Proofs.Ytkklehfcadkikaa.Sp
theorem FrameOnly (x0 : List Int) : (x0.length ≤ maxLen ∧ ∀ q_ ∈ x0, (Lit.int .u8 q_).wf = true) → ∃ k, brokerlaw04_FrameOnly.f k x0 = some true := by
  rintro ⟨_, hw⟩
  have hb := byt_of_wf hw
  apply Ev.rounds
  unfold brokerlaw04_FrameOnly.f
  by_cases h : (x0.length : Int) > 600
  · exact Ev.pos h (Ev.bind awake04 (Ev.now _))
  · refine Ev.neg h (Ev.bind (frame_Next_ev x0 hb (by omega) 0) ?_)
    by_cases he : (rNext x0 0).2.2 = 0
    · obtain ⟨g1, g2, g3, g4, g5, g6, g7⟩ := rNext_ok (p := 0) (x := (rNext x0 0).1) (q := (rNext x0 0).2.1) hb (Prod.ext rfl (Prod.ext rfl he))
      simp only [if_pos he]
      generalize (rNext x0 0).1 = p at *
      generalize (rNext x0 0).2.1 = q at *
      have hl := wrapF_len p
      have hp := enc_pos (code (p.length : Int))
      refine Ev.pos g3 (Ev.pos (by omega) (Ev.bind (frame_Wrap_ev p g7 g4) (Ev.pos (by omega) ?_)))
      have e : x0.take q.toNat = wrapF p := by
        rw [← g6]
        simp only [Int.toNat_zero, List.drop_zero]
        congr 1; omega
      rw [e]
      refine Ev.get (ref_Same_self _) (Ev.pos rfl (Ev.bind (frame_Size_ev _) (Ev.pos ?_ (Ev.bind awake04 (Ev.now _)))))
      rw [sizeF_len p g4]; omega
    · obtain ⟨z1, z2⟩ := rNext_zero he
      simp only [if_neg he]
      rw [z1, z2]
      exact Ev.pos rfl (Ev.pos rfl (Ev.bind awake04 (Ev.now _)))
end Go.Proofs.Ytkklehfcadkikaa.Pure
