/- The law FrameSums, out of what its functions compute. -/
import Derived.Test.YtkklehfcadkikaaFa
import Derived.Test.YtkklehfcadkikaaSg
import Derived.Test.YtkklehfcadkikaaJx12
set_option linter.unusedVariables false
set_option linter.unusedSimpArgs false
namespace Go.Proofs.Ytkklehfcadkikaa.Pure
open Go.RowKit Go.Proofs.YtkklehfcadkikaaW.PrintWords Go.Proofs.YtkklehfcadkikaaW.PrintLast Go.Proofs.YtkklehfcadkikaaW.PrintMore Go.Proofs.Ytkklehfcadkikaa.J Go.Proofs.Ytkklehfcadkikaa.Sp
theorem FrameSums (x0 : List Int) : (x0.length ≤ maxLen ∧ ∀ q_ ∈ x0, (Lit.int .u8 q_).wf = true) → ∃ k, brokerlaw04_FrameSums.f k x0 = some true := by
  rintro ⟨_, hw⟩
  have hb := byt_of_wf hw
  apply Ev.rounds
  unfold brokerlaw04_FrameSums.f
  by_cases h : (x0.length : Int) > 600
  · exact Ev.pos h (Ev.bind awake04 (Ev.now _))
  · have hs := sum_lt x0
    refine Ev.neg h (Ev.bind (frame_Sum_ev x0 hb (by omega)) (Ev.bind (ref4_Sum_ev x0 hb (by omega)) (Ev.pos rfl (Ev.neg (by omega) ?_))))
    rw [decide_eq_false (by omega : ¬ ((sum x0 : Nat) : Int) ≥ 4294967296)]
    refine Ev.step (fun k => by simp only [brokerlaw04_FrameSums.j0]; rw [if_neg (by simp)]) ?_
    by_cases h0 : (x0.length : Int) = 0
    · exact Ev.pos h0 (Ev.bind awake04 (Ev.now _))
    · obtain ⟨m, hm⟩ : ∃ m, x0.length = m + 1 := ⟨x0.length - 1, by omega⟩
      have e1 : wrap64 ((x0.length : Int) - 1) = (m : Int) := by rw [wrap64_in (by omega) (by omega)]; omega
      have hx := rd_byt hb (q := m) (by omega)
      obtain ⟨x, hxe⟩ := Int.eq_ofNat_of_zero_le hx.1
      have hsum : sum x0 = stp (sum (x0.take m)) x := by
        have e : x0 = x0.take m ++ [(x : Int)] := by
          conv => lhs; rw [← List.take_append_drop m x0]
          rw [drop_rd (by omega), List.drop_of_length_le (by omega), hxe]
        have e3 : sum x0 = sum (x0.take m ++ [(x : Int)]) := by rw [← e]
        rw [e3]
        show fnv 2166136261 _ = _
        rw [fnv_append]
        rfl
      have hs2 := sum_lt (x0.take m)
      have hxl := xor_lt hs2 (x := x) (by omega)
      refine Ev.neg h0 ?_
      rw [e1, Int.toNat_natCast, hxe, wrap64_in (n := (x : Int)) (by omega) (by omega)]
      refine Ev.pos (by omega) (Ev.pos (by omega) (Ev.bind (frame_Sum_ev _ (hb.take _) (by rw [List.length_take]; omega)) (Ev.pos (by omega) (Ev.pos ?_ (Ev.bind awake04 (Ev.now _))))))
      rw [bits_xor_nat .i64 63 (by decide) wraps_i64 _ x (by omega) (by omega), wrap64_in (by omega) (by omega), tmod_nn (by omega), hsum]
      unfold stp
      generalize sum (x0.take m) ^^^ x = y
      omega
end Go.Proofs.Ytkklehfcadkikaa.Pure
