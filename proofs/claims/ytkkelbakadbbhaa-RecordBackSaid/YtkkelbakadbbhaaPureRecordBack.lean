/- The law RecordBack, out of what its functions compute. -/
import Derived.Test.YtkkelbakadbbhaaRb
import Derived.Test.YtkkelbakadbbhaaJbrokerlaw31RecordBack
set_option linter.unusedVariables false
set_option linter.unusedSimpArgs false
namespace Go.Proofs.Ytkkelbakadbbhaa.Pure
open Go.RowKit Go.Proofs.YtkkelbakadbbhaaW.PrintWords Go.Proofs.YtkkelbakadbbhaaW.PrintLast Go.Proofs.YtkkelbakadbbhaaW.PrintMore Go.Proofs.Ytkkelbakadbbhaa.J Go.Proofs.Ytkkelbakadbbhaa.Sp
theorem RecordBack (x0 : List Int) (x1_0 : Int) (x1_1 : Int) (x1_2 : ByteArray) (x1_3 : ByteArray) (x2 : List Int) : (x0.length ≤ maxLen ∧ ∀ q_ ∈ x0, (Lit.int .u8 q_).wf = true) → ((Lit.int .i64 x1_0).wf = true) → ((Lit.int .i64 x1_1).wf = true) → (x1_2.size ≤ maxLen) → (x1_3.size ≤ maxLen) → (x2.length ≤ maxLen ∧ ∀ q_ ∈ x2, (Lit.int .u8 q_).wf = true) → ∃ k, brokerlaw31_RecordBack.f k x0 x1_0 x1_1 x1_2 x1_3 x2 = some true := by
  rintro ⟨_, hw0⟩ _ _ _ _ ⟨_, hw2⟩
  have hb0 := byt_of_wf hw0
  have hb2 := byt_of_wf hw2
  apply Ev.rounds
  have out : Ev (fun k => brokerlaw31_RecordBack.j0 k x0 x2 true x1_0 x1_1 x1_2 x1_3) true := Ev.step (fun k => by simp only [brokerlaw31_RecordBack.j0, if_true]) (Ev.bind awake31 (Ev.now _))
  unfold brokerlaw31_RecordBack.f
  by_cases h0 : (x0.length : Int) > 5000
  · exact Ev.pos h0 out
  refine Ev.neg h0 ?_
  by_cases h1 : (x2.length : Int) > 5000
  · exact Ev.pos h1 out
  refine Ev.neg h1 (Ev.bind (ref31_Check_ev _ _ _ _) ?_)
  by_cases hc : chk x1_0 x1_1 x1_2 x1_3 = 0
  · rw [show (chk x1_0 x1_1 x1_2 x1_3 != 0) = false from by simp [hc]]
    refine Ev.step (fun k => by simp only [brokerlaw31_RecordBack.j0]; rw [if_neg (by simp)]) ?_
    refine Ev.bind (record_Encode_ev _ _ _ _) ?_
    have hr := rec_len hc
    simp only [rEnc, if_pos hc]
    refine Ev.get rfl (Ev.pos (by simp; omega) (Ev.get rfl (Ev.pos (by simp; omega) (Ev.get rfl (Ev.pos (by simp; omega) (Ev.get rfl ?_))))))
    have ee : [] ++ x0 ++ rec_ x1_0 x1_1 x1_2 x1_3 ++ x2 = x0 ++ (rec_ x1_0 x1_1 x1_2 x1_3 ++ x2) := by simp
    rw [ee]
    refine Ev.bind (record_Decode_ev _ (hb0.append ((rec_byt _ _ _ _).append hb2)) (by simp; omega) _) ?_
    rw [rDec_at x0 x2 hc]
    simp only [if_true]
    refine Ev.pos (by simp) (Ev.pos ?_ (Ev.bind awake31 (Ev.now _)))
    simp only [List.length_append]
    rw [wrap64_in (by omega) (by omega)]
    omega
  · rw [show (chk x1_0 x1_1 x1_2 x1_3 != 0) = true from by simp [hc]]
    exact out
end Go.Proofs.Ytkkelbakadbbhaa.Pure
