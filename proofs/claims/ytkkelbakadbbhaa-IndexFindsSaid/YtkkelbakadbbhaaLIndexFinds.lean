/- The law IndexFinds: both find the same mark. -/
import Derived.Test.YtkkelbakadbbhaaPX
import Derived.Test.YtkkelbakadbbhaaUJ
set_option linter.unusedVariables false
set_option linter.unusedSimpArgs false
namespace Go.Proofs.Ytkkelbakadbbhaa.EVT
open Go Go.EV

theorem law_finds (a0 : List (Int × Int)) (a1 : Int) : g10 a0 a1 = some true := by
  unfold g10
  rw [awake33]
  simp only [Option.bind_some]
  by_cases h : (a0.length : Int) > 60
  · rw [ct (by (simp only [ne_eq, Bool.and_eq_true, Bool.or_eq_true, decide_eq_true_eq, beq_iff_eq, bne_iff_ne, Bool.not_eq_true', decide_eq_false_iff_not, and_true, true_and]; omega))]
  · rw [cf (by (rw [Bool.eq_false_iff]; simp only [ne_eq, Bool.and_eq_true, Bool.or_eq_true, decide_eq_true_eq, beq_iff_eq, bne_iff_ne, Bool.not_eq_true', decide_eq_false_iff_not, and_true, true_and]; omega)), Rising_eq a0 (by omega)]
    simp only [Option.bind_some]
    cases risB a0 a0.length 1 with
    | false => rfl
    | true =>
      rw [cf (b := !true) rfl, Find_eq a0 a1 (by omega), ref_Find_eq a0 a1 (by omega)]
      simp
theorem IndexFinds {a0 : Ty.den (.sl (.st (.pr (.i .i64) (.i .i64))))} {a1 : Ty.den (.i .i64)} (h0 : Bd _ a0) (h1 : Bd _ a1) : i10.G (a0, a1) = some true := law_finds a0 a1
end Go.Proofs.Ytkkelbakadbbhaa.EVT
