/- The law RecordOnly, out of what its functions compute. -/
import Derived.Test.YtkkelbakadbbhaaRb
import Derived.Test.YtkkelbakadbbhaaJbrokerlaw31RecordOnly
set_option linter.unusedVariables false
set_option linter.unusedSimpArgs false
namespace Go.Proofs.Ytkkelbakadbbhaa.Pure
open Go.RowKit Go.Proofs.YtkkelbakadbbhaaW.PrintWords Go.Proofs.YtkkelbakadbbhaaW.PrintLast Go.Proofs.YtkkelbakadbbhaaW.PrintMore Go.Proofs.Ytkkelbakadbbhaa.J Go.Proofs.Ytkkelbakadbbhaa.Sp
theorem RecordOnly (x0 : List Int) : (x0.length ≤ maxLen ∧ ∀ q_ ∈ x0, (Lit.int .u8 q_).wf = true) → ∃ k, brokerlaw31_RecordOnly.f k x0 = some true := by
  rintro ⟨_, hw⟩
  have hb := byt_of_wf hw
  apply Ev.rounds
  unfold brokerlaw31_RecordOnly.f
  by_cases h : (x0.length : Int) > 5000
  · exact Ev.pos h (Ev.bind awake31 (Ev.now _))
  · refine Ev.neg h (Ev.bind (record_Decode_ev x0 hb (by omega) 0) ?_)
    by_cases he : (rDec x0 0).2.2.2.2.2 = 0
    · have hd : rDec x0 0 = ((rDec x0 0).1, (rDec x0 0).2.1, (rDec x0 0).2.2.1, (rDec x0 0).2.2.2.1, (rDec x0 0).2.2.2.2.1, 0) := Prod.ext rfl (Prod.ext rfl (Prod.ext rfl (Prod.ext rfl (Prod.ext rfl he))))
      generalize (rDec x0 0).1 = o at hd
      generalize (rDec x0 0).2.1 = n at hd
      generalize (rDec x0 0).2.2.1 = s at hd
      generalize (rDec x0 0).2.2.2.1 = v at hd
      generalize (rDec x0 0).2.2.2.2.1 = q at hd
      obtain ⟨g1, g2, g3, g4, g5⟩ := rDec_ok hb hd
      have hr := rec_len g3
      rw [hd]
      refine Ev.pos rfl (Ev.bind (record_Encode_ev _ _ _ _) ?_)
      simp only [rEnc, if_pos g3]
      have e : x0.take q.toNat = rec_ o n s v := by
        rw [← g5]
        simp only [Int.toNat_zero, List.drop_zero]
        congr 1; omega
      refine Ev.pos trivial (Ev.pos g2 (Ev.pos (by omega) ?_))
      rw [e]
      refine Ev.get (ref_Same_self _) (Ev.pos rfl (Ev.bind (record_Size_ev _ _ _ _) (Ev.pos ?_ (Ev.bind awake31 (Ev.now _)))))
      simp only [rEnc, if_pos g3]; omega
    · have hz := rDec_zero he
      generalize (rDec x0 0).2.2.2.2.2 = e at *
      rw [hz]
      exact Ev.neg he (Ev.pos (by kernel_rfl) (Ev.pos rfl (Ev.bind awake31 (Ev.now _))))
end Go.Proofs.Ytkkelbakadbbhaa.Pure
