/- The law ReplicaChecks: the new replica, and whether any replica is valid, or the first error. -/
import Derived.Test.YtfadalgikdffeaaSC
import Derived.Test.YtfadalgikdffeaaUL
set_option linter.unusedVariables false
set_option linter.unusedSimpArgs false
namespace Go.Proofs.Ytfadalgikdffeaa.EVT
open Go Go.EV

theorem g11_self (r : Rep) (h1 : r.1.2.2.2.2.2.2.length ≤ 7) (h2 : r.2.2.1.length ≤ 5000) (h3 : r.2.2.2.length ≤ 5000) : g11 r.1.1 r.1.2.1 r.1.2.2.1 r.1.2.2.2.1 r.1.2.2.2.2.1 r.1.2.2.2.2.2.1 r.1.2.2.2.2.2.2 r.2.1 r.2.2.1 r.2.2.2 r.1.1 r.1.2.1 r.1.2.2.1 r.1.2.2.2.1 r.1.2.2.2.2.1 r.1.2.2.2.2.2.1 r.1.2.2.2.2.2.2 r.2.1 r.2.2.1 r.2.2.2 = some true := by
  unfold g11
  rw [g31_self r.1 h1]
  simp only [Option.bind_some, cond_true, beq_self_eq_true]
  rw [g18_self _ (by omega), g28_self _ (by omega)]
  rfl
theorem law_checks (nd ns : Int) (hns : -9223372036854775808 ≤ ns ∧ ns ≤ 9223372036854775807) (r : Rep) (hr : -9223372036854775808 ≤ r.1.2.1 ∧ r.1.2.1 ≤ 9223372036854775807) : g3 nd ns r.1.1 r.1.2.1 r.1.2.2.1 r.1.2.2.2.1 r.1.2.2.2.2.1 r.1.2.2.2.2.2.1 r.1.2.2.2.2.2.2 r.2.1 r.2.2.1 r.2.2.2 = some true := by
  unfold g3
  obtain ⟨b, h1, h2⟩ := g7_some r.1.1 r.1.2.1 r.1.2.2.1 r.1.2.2.2.1 r.1.2.2.2.2.1 r.1.2.2.2.2.2.1 r.2.1 r.1.2.2.2.2.2.2 r.2.2.1 r.2.2.2
  rw [h1, g8_true]
  simp only [Option.bind_some]
  cases b with
  | false => rfl
  | true =>
    obtain ⟨k1, k2, k3⟩ := h2 rfl
    rw [cf (b := !true) rfl]
    unfold g9 g10
    rw [g29_eq, g30_eq _ _ hns]
    simp only [Option.bind_some]
    rw [g12_eq (by omega) (by omega) (by omega), g13_eq hr (by omega) (by omega) (by omega)]
    simp only [Option.bind_some]
    by_cases h : okN nd ns
    · simp only [if_pos h]
      have e := g11_self ((nd, ns, 0, 0, -1, -1, []), 0, [], []) (by simp) (by simp) (by simp)
      dsimp only at e
      rw [e]
      simp
    · simp only [if_neg h]
      have e := g11_self ((0, 0, 0, 0, 0, 0, []), 0, [], []) (by simp) (by simp) (by simp)
      dsimp only at e
      rw [e]
      simp
theorem ReplicaChecks {a0 a1 : Int} {a2 : Rep} (h0 : Bd (.i .i64) a0) (h1 : Bd (.i .i64) a1) (h2 : Bd (.st (.pr (.st (.pr (.i .i64) (.pr (.i .i64) (.pr (.i .i64) (.pr (.i .i64) (.pr (.i .i64) (.pr (.i .i64) (.sl (.i .i64))))))))) (.pr (.i .i64) (.pr (.sl (.st (.pr (.i .i64) .s))) (.sl (.i .i64)))))) a2) : i3.G (a0, a1, a2) = some true := by
  have hn : -9223372036854775808 ≤ a1 ∧ a1 ≤ 9223372036854775807 := by
    simpa [Bd, Lit.wf, IntKind.min, IntKind.max, IntKind.signed, IntKind.bits] using h1
  have hr : -9223372036854775808 ≤ a2.1.2.1 ∧ a2.1.2.1 ≤ 9223372036854775807 := by
    have := h2.1.2.1
    simp [Bd, Lit.wf, IntKind.min, IntKind.max, IntKind.signed, IntKind.bits] at this
    exact ⟨of_decide_eq_true this.1, of_decide_eq_true this.2⟩
  exact law_checks a0 a1 hn a2 hr
end Go.Proofs.Ytfadalgikdffeaa.EVT
