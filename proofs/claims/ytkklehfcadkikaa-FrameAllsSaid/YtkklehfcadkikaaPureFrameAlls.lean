/- The law FrameAlls, out of what its functions compute. -/
import Derived.Test.YtkklehfcadkikaaFb
import Derived.Test.YtkklehfcadkikaaSg
import Derived.Test.YtkklehfcadkikaaJx23
import Derived.Test.YtkklehfcadkikaaJx24
set_option linter.unusedVariables false
set_option linter.unusedSimpArgs false
namespace Go.Proofs.Ytkklehfcadkikaa.Pure
open Go.RowKit Go.Proofs.YtkklehfcadkikaaW.PrintWords Go.Proofs.YtkklehfcadkikaaW.PrintLast Go.Proofs.YtkklehfcadkikaaW.PrintMore Go.Proofs.Ytkklehfcadkikaa.J Go.Proofs.Ytkklehfcadkikaa.Sp
theorem alls (b : List Int) (hb : Byt b) (hlen : b.length ≤ 1000000) : ∀ (d : Nat) (p : Int) (acc : List (List Int)), 0 ≤ p → p ≤ (b.length : Int) → (b.length : Int) - p ≤ (d : Int) → (acc.length : Int) ≤ p →
    ∃ r, Ev (fun k => frame_All.l0 k b acc p) r ∧ Ev (fun k => brokerref04_All.l0 k b acc p) r ∧ (r.1.length : Int) ≤ (b.length : Int) := by
  intro d
  induction d with
  | zero =>
    intro p acc h0 h1 hd ha
    refine ⟨(acc, p), ?_, ?_, by dsimp only; omega⟩
    · refine Ev.step (f := fun _ => some (acc, p)) (fun k => ?_) (Ev.now _)
      simp only [frame_All.l0]; rw [if_neg (by omega)]
    · refine Ev.step (f := fun _ => some (acc, p)) (fun k => ?_) (Ev.now _)
      simp only [brokerref04_All.l0]; rw [if_neg (by omega)]
  | succ d ih =>
    intro p acc h0 h1 hd ha
    by_cases hlt : p < (b.length : Int)
    · have n1 := frame_Next_ev b hb (by omega) p
      have n2 := ref4_Next_ev b hb (by omega) p
      by_cases he : (rNext b p).2.2 = 0
      · obtain ⟨g1, g2, g3, g4, g5, g6, g7⟩ := rNext_ok (x := (rNext b p).1) (q := (rNext b p).2.1) hb (by rw [← he])
        obtain ⟨r, r1, r2, r3⟩ := ih (rNext b p).2.1 (acc ++ [(rNext b p).1]) (by omega) g3 (by omega) (by simp; omega)
        refine ⟨r, ?_, ?_, r3⟩
        · refine Ev.step (fun k => by simp only [frame_All.l0]; rw [if_pos hlt]) (Ev.bind n1 (Ev.pos he (Ev.pos (show acc.length < 5864062014805 by omega) r1)))
        · refine Ev.step (fun k => by simp only [brokerref04_All.l0]; rw [if_pos hlt]) (Ev.bind n2 (Ev.pos he (Ev.pos (show acc.length < 5864062014805 by omega) r2)))
      · refine ⟨(acc, p), ?_, ?_, by dsimp only; omega⟩
        · refine Ev.step (fun k => by simp only [frame_All.l0]; rw [if_pos hlt]) (Ev.bind n1 (Ev.neg he (Ev.now _)))
        · refine Ev.step (fun k => by simp only [brokerref04_All.l0]; rw [if_pos hlt]) (Ev.bind n2 (Ev.neg he (Ev.now _)))
    · refine ⟨(acc, p), ?_, ?_, by dsimp only; omega⟩
      · refine Ev.step (f := fun _ => some (acc, p)) (fun k => ?_) (Ev.now _)
        simp only [frame_All.l0]; rw [if_neg (by omega)]
      · refine Ev.step (f := fun _ => some (acc, p)) (fun k => ?_) (Ev.now _)
        simp only [brokerref04_All.l0]; rw [if_neg (by omega)]
theorem sameF_self (l : List (List Int)) (hl : l.length ≤ 4611686018427387904) : Ev (fun k => brokerref04_Same.f k l l) true := by
  unfold brokerref04_Same.f
  refine Ev.pos rfl ?_
  have : ∀ (d i : Nat), i + d = l.length → Ev (fun k => brokerref04_Same.l0 k l l (i : Int)) true := by
    intro d
    induction d with
    | zero =>
      intro i hi
      refine Ev.step (f := fun _ => some true) (fun k => ?_) (Ev.now _)
      simp only [brokerref04_Same.l0]; rw [if_neg (by omega)]
    | succ d ih =>
      intro i hi
      refine Ev.step (fun k => ?_) (ih (i + 1) (by omega))
      simp only [brokerref04_Same.l0]
      rw [if_pos (by omega), if_pos (by omega), if_pos (by omega), if_pos trivial, wrap64_in (by omega) (by omega)]
      rfl
  exact this l.length 0 (by omega)
theorem FrameAlls (x0 : List Int) : (x0.length ≤ maxLen ∧ ∀ q_ ∈ x0, (Lit.int .u8 q_).wf = true) → ∃ k, brokerlaw04_FrameAlls.f k x0 = some true := by
  rintro ⟨_, hw⟩
  have hb := byt_of_wf hw
  apply Ev.rounds
  unfold brokerlaw04_FrameAlls.f frame_All.f brokerref04_All.f
  by_cases h : (x0.length : Int) > 600
  · exact Ev.pos h (Ev.bind awake04 (Ev.now _))
  · obtain ⟨r, r1, r2, r3⟩ := alls x0 hb (by omega) x0.length 0 [] (by omega) (by omega) (by omega) (by simp)
    refine Ev.neg h (Ev.bind r1 (Ev.bind r2 (Ev.bind (sameF_self r.1 (by omega)) (Ev.pos rfl (Ev.pos rfl (Ev.bind awake04 (Ev.now _)))))))
end Go.Proofs.Ytkklehfcadkikaa.Pure
