/- The examples of the laws of segments hold; few records. -/
import Derived.Test.YtkkelbakadbbhaaBT
import Derived.Test.YtkkelbakadbbhaaYbrokerlaw32awake
import Derived.Test.YtkkelbakadbbhaaYlaw320
set_option linter.unusedVariables false
set_option linter.unusedSimpArgs false
namespace Go.Proofs.Ytkkelbakadbbhaa.Sp
open Go.RowKit Go.Proofs.YtkkelbakadbbhaaW.PrintWords Go.Proofs.YtkkelbakadbbhaaW.PrintLast Go.Proofs.YtkkelbakadbbhaaW.PrintMore Go.Proofs.Ytkkelbakadbbhaa.J
theorem awake32 : Ev (fun k => brokerlaw32_awake.f k) true := Ev.of (fun k => brokerlaw32_awake.mono k) (k := 60) (by kernel_rfl)
theorem few32_l0 (l : List S23) (hl : l.length ≤ 4611686018427387904) : ∀ (d i : Nat), i + d = l.length → ∃ r, Ev (fun k => brokerlaw32_few.l0 k l (i : Int)) r ∧ (r = true → ∀ j, i ≤ j → (h : j < l.length) → (l[j]).f2.size ≤ 100 ∧ (l[j]).f3.size ≤ 200) := by
  intro d
  induction d with
  | zero =>
    intro i hi
    exact ⟨true, Ev.step (fun k => by simp only [brokerlaw32_few.l0]; rfl) (Ev.neg (by omega) (Ev.now _)), fun _ j h1 h2 => by omega⟩
  | succ d ih =>
    intro i hi
    have hil : i < l.length := by omega
    obtain ⟨r, hr, hs⟩ := ih (i + 1) (by omega)
    by_cases h2 : (((l[i]).f2).size : Int) > 100
    · refine ⟨false, Ev.step (fun k => by simp only [brokerlaw32_few.l0]; rfl) (Ev.pos (by omega) (Ev.pos (by omega) ?_)), by simp⟩
      rw [rdR_at l i hil]; exact Ev.pos h2 (Ev.now _)
    by_cases h3 : (((l[i]).f3).size : Int) > 200
    · refine ⟨false, Ev.step (fun k => by simp only [brokerlaw32_few.l0]; rfl) (Ev.pos (by omega) (Ev.pos (by omega) ?_)), by simp⟩
      rw [rdR_at l i hil]; exact Ev.neg h2 (Ev.pos h3 (Ev.now _))
    refine ⟨r, Ev.step (fun k => by simp only [brokerlaw32_few.l0]; rfl) (Ev.pos (by omega) (Ev.pos (by omega) ?_)), fun h j h4 h5 => ?_⟩
    · rw [rdR_at l i hil, wrap64_in (by omega) (by omega)]
      exact Ev.neg h2 (Ev.neg h3 hr)
    · rcases Nat.eq_or_lt_of_le h4 with rfl | h4
      · exact ⟨by omega, by omega⟩
      · exact hs h j h4 h5
theorem few32_ev (l : List S23) (hl : l.length ≤ 4611686018427387904) : ∃ r, Ev (fun k => brokerlaw32_few.f k l) r ∧ (r = true → l.length ≤ 16 ∧ ∀ j, (h : j < l.length) → (l[j]).f2.size ≤ 100 ∧ (l[j]).f3.size ≤ 200) := by
  unfold brokerlaw32_few.f
  by_cases h : (l.length : Int) > 16
  · exact ⟨false, Ev.pos h (Ev.now _), by simp⟩
  · obtain ⟨r, hr, hs⟩ := few32_l0 l hl l.length 0 (by omega)
    exact ⟨r, Ev.neg h hr, fun ht => ⟨by omega, fun j hj => hs ht j (by omega) hj⟩⟩
end Go.Proofs.Ytkkelbakadbbhaa.Sp
