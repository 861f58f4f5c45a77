/- The law FrameBack, out of what its functions compute. -/
import Derived.Test.YtkklehfcadkikaaFb
import Derived.Test.YtkklehfcadkikaaSg
import Derived.Test.YtkklehfcadkikaaJx15
set_option linter.unusedVariables false
set_option linter.unusedSimpArgs false
namespace Go.Proofs.Ytkklehfcadkikaa.Pure
open Go.RowKit Go.Proofs.YtkklehfcadkikaaW.PrintWords Go.Proofs.YtkklehfcadkikaaW.PrintLast Go.Proofs.YtkklehfcadkikaaW.PrintMore Go.Proofs.Ytkklehfcadkikaa.J Go.Proofs.Ytkklehfcadkikaa.Sp
theorem FrameBack (x0 : List Int) (x1 : List Int) (x2 : List Int) : (x0.length ≤ maxLen ∧ ∀ q_ ∈ x0, (Lit.int .u8 q_).wf = true) → (x1.length ≤ maxLen ∧ ∀ q_ ∈ x1, (Lit.int .u8 q_).wf = true) → (x2.length ≤ maxLen ∧ ∀ q_ ∈ x2, (Lit.int .u8 q_).wf = true) → ∃ k, brokerlaw04_FrameBack.f k x0 x1 x2 = some true := by
  rintro ⟨_, hw0⟩ ⟨_, hw1⟩ ⟨_, hw2⟩
  have hb0 := byt_of_wf hw0
  have hb1 := byt_of_wf hw1
  have hb2 := byt_of_wf hw2
  apply Ev.rounds
  have out : Ev (fun k => brokerlaw04_FrameBack.j0 k x0 x1 x2 true) true := Ev.step (fun k => by simp only [brokerlaw04_FrameBack.j0, if_true]) (Ev.bind awake04 (Ev.now _))
  unfold brokerlaw04_FrameBack.f
  by_cases h0 : (x0.length : Int) > 600
  · exact Ev.pos h0 out
  · refine Ev.neg h0 ?_
    by_cases h1 : (x1.length : Int) > 600
    · exact Ev.pos h1 out
    · refine Ev.neg h1 ?_
      by_cases h2 : (x2.length : Int) > 600
      · rw [decide_eq_true h2]; exact out
      · rw [decide_eq_false h2]
        have hl := wrapF_len x1
        have he := enc_len10 (code_lt (n := (x1.length : Int)) (by omega) (by omega))
        refine Ev.step (fun k => by simp only [brokerlaw04_FrameBack.j0]; rw [if_neg (by simp)]) ?_
        refine Ev.get rfl (Ev.pos (by simp; omega) (Ev.get rfl (Ev.bind (frame_Wrap_ev x1 hb1 (by omega)) (Ev.pos (by simp; omega) (Ev.get rfl (Ev.pos (by simp; omega) (Ev.get rfl ?_)))))))
        have ee : [] ++ x0 ++ wrapF x1 ++ x2 = x0 ++ (wrapF x1 ++ x2) := by simp
        rw [ee]
        refine Ev.bind (frame_Next_ev _ (hb0.append ((wrapF_byt hb1).append hb2)) (by simp; omega) _) ?_
        rw [rNext_wrap x0 x1 x2 (by omega)]
        refine Ev.pos rfl (Ev.get (ref_Same_self _) (Ev.pos rfl (Ev.pos ?_ (Ev.bind awake04 (Ev.now _)))))
        simp only [List.length_append]
        rw [wrap64_in (by omega) (by omega)]
        omega
end Go.Proofs.Ytkklehfcadkikaa.Pure
