/- The law IndexBuilt: the marks that Build makes are a segment's, and few steps lead to an offset. -/
import Derived.Test.YtkkelbakadbbhaaQD
import Derived.Test.YtkkelbakadbbhaaUJ
set_option linter.unusedVariables false
set_option linter.unusedSimpArgs false
namespace Go.Proofs.Ytkkelbakadbbhaa.EVT
open Go Go.EV

theorem law_built (o nx : Int) (b : List UInt8) (a f : Int) : g12 o nx b a f = some true := by
  unfold g12
  obtain ⟨v, hv1, hv2⟩ := valid_eq o nx b []
  rw [awake33, hv1]
  simp only [Option.bind_some]
  cases v with
  | false => rfl
  | true =>
    obtain ⟨h1, h2, h3, h4, L, hk, rfl, rfl⟩ := hv2 rfl
    have hL := segB_len L o hk
    have hbl := bldM_len (evr a) o L L.length
    have hg := bld_good (evr a) o L
    obtain ⟨r, k1, k2⟩ := index_Check_eq hk rfl (by omega) (o + (L.length : Int)) (bldM (evr a) o L L.length) (by omega)
    have hr : r = true := k2.2 hg
    subst hr
    have h1e := evr_one a
    obtain ⟨J, q1, q2, q3⟩ := bld_find (evr a) o L h1e f
    rw [cf (b := !true) rfl, Build_eq hk rfl (by omega)]
    simp only [Option.bind_some]
    rw [Steps_at hk rfl (by omega) _ f (by omega) q1 q2, k1]
    simp only [Option.bind_some]
    generalize hc : (if o + (J : Int) ≤ f ∧ f < o + (L.length : Int) then f - (o + (J : Int)) + 1 else 0) = c
    have hc1 : 0 ≤ c ∧ c ≤ evr a ∧ (0 < c ↔ (o ≤ f ∧ f < o + (L.length : Int))) := by
      by_cases hin : o ≤ f ∧ f < o + (L.length : Int)
      · obtain ⟨p1, p2⟩ := q3 hin.1 hin.2
        rw [if_pos ⟨p1, hin.2⟩] at hc
        exact ⟨by omega, by omega, by constructor <;> intro _ <;> omega⟩
      · rw [if_neg (by omega)] at hc
        exact ⟨by omega, by omega, by constructor <;> intro _ <;> omega⟩
    obtain ⟨e1, e2, e3⟩ := hc1
    by_cases ha : a < 1
    · have ea : evr a = 1 := by unfold evr; split <;> omega
      rw [ct (by (simp only [ne_eq, Bool.and_eq_true, Bool.or_eq_true, decide_eq_true_eq, beq_iff_eq, bne_iff_ne, Bool.not_eq_true', decide_eq_false_iff_not, and_true, true_and]; omega))]
      by_cases hf : f ≥ o
      · rw [ct (by (simp only [ne_eq, Bool.and_eq_true, Bool.or_eq_true, decide_eq_true_eq, beq_iff_eq, bne_iff_ne, Bool.not_eq_true', decide_eq_false_iff_not, and_true, true_and]; omega)), ct rfl, ct (by (simp only [ne_eq, Bool.and_eq_true, Bool.or_eq_true, decide_eq_true_eq, beq_iff_eq, bne_iff_ne, Bool.not_eq_true', decide_eq_false_iff_not, and_true, true_and]; omega)), ct (by (simp only [ne_eq, Bool.and_eq_true, Bool.or_eq_true, decide_eq_true_eq, beq_iff_eq, bne_iff_ne, Bool.not_eq_true', decide_eq_false_iff_not, and_true, true_and]; omega))]
        have : (decide (c > 0) == decide (f < o + (L.length : Int))) = true := by
          rw [beq_iff_eq, decide_eq_decide]; omega
        rw [ct this]
      · rw [cf (by (rw [Bool.eq_false_iff]; simp only [ne_eq, Bool.and_eq_true, Bool.or_eq_true, decide_eq_true_eq, beq_iff_eq, bne_iff_ne, Bool.not_eq_true', decide_eq_false_iff_not, and_true, true_and]; omega)), ct rfl, ct (by (simp only [ne_eq, Bool.and_eq_true, Bool.or_eq_true, decide_eq_true_eq, beq_iff_eq, bne_iff_ne, Bool.not_eq_true', decide_eq_false_iff_not, and_true, true_and]; omega)), ct (by (simp only [ne_eq, Bool.and_eq_true, Bool.or_eq_true, decide_eq_true_eq, beq_iff_eq, bne_iff_ne, Bool.not_eq_true', decide_eq_false_iff_not, and_true, true_and]; omega))]
        have : (decide (c > 0) == false) = true := by
          rw [beq_iff_eq, decide_eq_false_iff_not]; omega
        rw [ct this]
    · have ea : evr a = a := by unfold evr; split <;> omega
      rw [cf (by (rw [Bool.eq_false_iff]; simp only [ne_eq, Bool.and_eq_true, Bool.or_eq_true, decide_eq_true_eq, beq_iff_eq, bne_iff_ne, Bool.not_eq_true', decide_eq_false_iff_not, and_true, true_and]; omega))]
      by_cases hf : f ≥ o
      · rw [ct (by (simp only [ne_eq, Bool.and_eq_true, Bool.or_eq_true, decide_eq_true_eq, beq_iff_eq, bne_iff_ne, Bool.not_eq_true', decide_eq_false_iff_not, and_true, true_and]; omega)), ct rfl, ct (by (simp only [ne_eq, Bool.and_eq_true, Bool.or_eq_true, decide_eq_true_eq, beq_iff_eq, bne_iff_ne, Bool.not_eq_true', decide_eq_false_iff_not, and_true, true_and]; omega)), ct (by (simp only [ne_eq, Bool.and_eq_true, Bool.or_eq_true, decide_eq_true_eq, beq_iff_eq, bne_iff_ne, Bool.not_eq_true', decide_eq_false_iff_not, and_true, true_and]; omega))]
        have : (decide (c > 0) == decide (f < o + (L.length : Int))) = true := by
          rw [beq_iff_eq, decide_eq_decide]; omega
        rw [ct this]
      · rw [cf (by (rw [Bool.eq_false_iff]; simp only [ne_eq, Bool.and_eq_true, Bool.or_eq_true, decide_eq_true_eq, beq_iff_eq, bne_iff_ne, Bool.not_eq_true', decide_eq_false_iff_not, and_true, true_and]; omega)), ct rfl, ct (by (simp only [ne_eq, Bool.and_eq_true, Bool.or_eq_true, decide_eq_true_eq, beq_iff_eq, bne_iff_ne, Bool.not_eq_true', decide_eq_false_iff_not, and_true, true_and]; omega)), ct (by (simp only [ne_eq, Bool.and_eq_true, Bool.or_eq_true, decide_eq_true_eq, beq_iff_eq, bne_iff_ne, Bool.not_eq_true', decide_eq_false_iff_not, and_true, true_and]; omega))]
        have : (decide (c > 0) == false) = true := by
          rw [beq_iff_eq, decide_eq_false_iff_not]; omega
        rw [ct this]
theorem IndexBuilt {a0 : Ty.den (.st (.pr (.i .i64) (.pr (.i .i64) (.sl .u8))))} {a1 : Ty.den (.i .i64)} {a2 : Ty.den (.i .i64)} (h0 : Bd _ a0) (h1 : Bd _ a1) (h2 : Bd _ a2) : i12.G (a0, a1, a2) = some true := law_built a0.1 a0.2.1 a0.2.2 a1 a2
end Go.Proofs.Ytkkelbakadbbhaa.EVT
