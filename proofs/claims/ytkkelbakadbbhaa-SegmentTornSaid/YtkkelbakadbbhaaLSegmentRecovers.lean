/- The law SegmentRecovers: what the reference recovers from bytes, the segment recovers. -/
import Derived.Test.YtkkelbakadbbhaaPH
import Derived.Test.YtkkelbakadbbhaaUL
set_option linter.unusedVariables false
set_option linter.unusedSimpArgs false
namespace Go.Proofs.Ytkkelbakadbbhaa.EVT
open Go Go.EV

theorem wf64 {n : Int} (h : (Lit.int .i64 n).wf = true) : -9223372036854775808 ≤ n ∧ n ≤ 9223372036854775807 := by
  simp [Lit.wf, IntKind.min, IntKind.max, IntKind.bits, IntKind.signed] at h
  omega
theorem SegmentRecovers {a0 : Ty.den (.sl .u8)} {a1 : Ty.den (.i .i64)} (h0 : Bd _ a0) (h1 : Bd _ a1) : i17.G (a0, a1) = some true := by
  show g17 a0 a1 = some true
  have hr := wf64 (n := a1) h1
  unfold g17
  by_cases hl : ((List.length (α := UInt8) a0 : Nat) : Int) > 4000
  · rw [ct (decide_eq_true hl), awake32]; rfl
  · rw [cf (decide_eq_false hl), Recover_eq a0 (by omega) a1]
    simp only [Option.bind_some]
    rw [ref_Recover_eq a0 (by omega) a1 hr]
    simp only [Option.bind_some]
    rw [Same_self]
    simp only [Option.bind_some]
    rw [ct rfl, ct (by simp), awake32]; rfl
end Go.Proofs.Ytkkelbakadbbhaa.EVT
