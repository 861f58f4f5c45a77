/- Chapter 40: what the functions answer. -/
import Derived.Test.YtehjeifbgegabaaVoteT
import Derived.Test.YtehjeifbgegabaaEv22
set_option linter.unusedVariables false
set_option linter.unusedSimpArgs false
set_option maxRecDepth 100000
namespace Go.Proofs.Ytehjeifbgegabaa.EVT
open Go Go.EV
attribute [local simp] finF outX evC_skip evC_region thenX_go thenX_ret thenX_exit evC_seq condX_t condX_f evC_cond blockX_go blockX_ret blockX_exit evC_block evC_loop evC_exit evC_ret runOps wantedX opStep isEff opq x1 x2 x3 q1 intX freezeL freeze addR put dstOf upd St.ev ofConst binv arith strop unv pickX resX leave reiL reiX rei frzL frz oneX tdOf Op.operands Option.bind X.refs refsL an enterX imp impL eff storeX storeIn nav setAt inAr fits X.size sizeL X.agg X.isBot X.isTup X.arD TD.agg buildX fillX ldV fldA fldV offs buildSlX sliceX idxA idxV lenV lenX elems callX X.flat flatL Call.operands T3 T4 T22 T24 T26 T34 T37
theorem E_body {k : Nat} {f : FuncId} {args : List X} {fn : Func} {c : Code} {S0 : St} (h1 : fns f = some fn) (h2 : fn.body = some c) (h3 : enter args = some S0) (h4 : (an f).sp = false) :
    E (k + 1) f args = finF (outX T (an f).fr fn.results.toList (evC T (E k) an (nrm f) k c S0)) := evF_body h1 h2 h3 h4
def bl (a b c d e f : Int) (v : X) : X := .ag [.i .i64 a, .i .i64 b, .i .i64 c, .i .i64 d, .i .i64 e, .i .i64 f, v]
theorem in_ok {k : Nat} (hk : 1 ≤ k) (a b c : Int) : E k 20 [.i .i64 a, .i .i64 b, .i .i64 c] = some (.b (decide (b ≤ a) && decide (a ≤ c)), []) := by
  obtain ⟨k, rfl⟩ : ∃ j, k = j + 1 := ⟨k - 1, by omega⟩
  rw [E_body (c := _) fns20 rfl rfl rfl]
  by_cases h1 : b ≤ a
  · simp [Try.f20, h1]
  · simp [Try.f20, h1]
def newR (nd ns : Int) : X := if 1 ≤ ns ∧ ns ≤ 7 ∧ 0 ≤ nd ∧ nd < ns then .tup [bl nd ns 0 0 (-1) (-1) (.sl true []), .i .i64 0] else .tup [bl 0 0 0 0 0 0 (.sl true []), .i .i64 1]
theorem new_ok {k : Nat} (hk : 1 ≤ k) (nd ns : Int) : E k 8 [.i .i64 nd, .i .i64 ns] = some (newR nd ns, []) := by
  obtain ⟨k, rfl⟩ : ∃ j, k = j + 1 := ⟨k - 1, by omega⟩
  rw [E_body (c := _) fns8 rfl rfl rfl]
  by_cases h1 : ns < 1
  · have : ¬ (1 ≤ ns) := by omega
    simp [Try.f8, h1, newR, bl, this]
  by_cases h2 : ns > 7
  · have : ¬ (ns ≤ 7) := by omega
    simp [Try.f8, h1, h2, newR, bl, this]
  by_cases h3 : nd < 0
  · have : ¬ (0 ≤ nd) := by omega
    simp [Try.f8, h1, h2, h3, newR, bl, this]
  by_cases h4 : nd ≥ ns
  · have : ¬ (nd < ns) := by omega
    simp [Try.f8, h1, h2, h3, h4, newR, bl, this]
  · have : 1 ≤ ns ∧ ns ≤ 7 ∧ 0 ≤ nd ∧ nd < ns := by omega
    simp [Try.f8, h1, h2, h3, h4, newR, bl, this]
theorem refNew_ok {k : Nat} (hk : 2 ≤ k) (nd ns : Int) : E k 9 [.i .i64 nd, .i .i64 ns] = some (newR nd ns, []) := by
  obtain ⟨k, rfl⟩ : ∃ j, k = j + 2 := ⟨k - 2, by omega⟩
  rw [E_body (c := _) fns9 rfl rfl rfl]
  have hin := fun a b c => in_ok (k := k + 1) (by omega) a b c
  by_cases h1 : 1 ≤ ns ∧ ns ≤ 7
  · have hw : IntKind.i64.wrap (ns - 1) = ns - 1 := IntWalk.i64_in _ (by omega)
    by_cases h3 : 0 ≤ nd ∧ nd ≤ ns - 1
    · have h4 : 0 ≤ nd ∧ nd < ns := by omega
      simp [Try.f9, hin, newR, bl, h1, hw, h3, h4]
    · have h4 : ¬ (0 ≤ nd ∧ nd < ns) := by omega
      simp only [← Bool.decide_and] at hin
      simp [Try.f9, hin, newR, bl, h1, hw, h3, h4]
  · have h4 : ¬ (1 ≤ ns ∧ ns ≤ 7 ∧ 0 ≤ nd ∧ nd < ns) := by omega
    simp only [← Bool.decide_and] at hin
    simp [Try.f9, hin, newR, bl, h1, h4]
def quo (a b : Int) : Bool := decide (1 ≤ b) && decide (a > b / 2)
theorem quorum_ok {k : Nat} (hk : 1 ≤ k) (a b : Int) (hb : b ≤ 9223372036854775807) : E k 28 [.i .i64 a, .i .i64 b] = some (.b (quo a b), []) := by
  obtain ⟨k, rfl⟩ : ∃ j, k = j + 1 := ⟨k - 1, by omega⟩
  rw [E_body (c := _) fns28 rfl rfl rfl]
  by_cases h1 : b ≥ 1
  · have h2 : b.tdiv 2 = b / 2 := Int.tdiv_eq_ediv_of_nonneg (by omega)
    have hw : IntKind.i64.wrap (b / 2) = b / 2 := IntWalk.i64_in _ (by omega)
    simp [Try.f28, h1, quo, h2, hw]
  · simp [Try.f28, h1, quo]
theorem refQuorum_ok {k : Nat} (hk : 1 ≤ k) (a b : Int) (hb : b ≤ 9223372036854775807) : E k 37 [.i .i64 a, .i .i64 b] = some (.b (quo a b), []) := by
  obtain ⟨k, rfl⟩ : ∃ j, k = j + 1 := ⟨k - 1, by omega⟩
  rw [E_body (c := _) fns37 rfl rfl rfl]
  by_cases h1 : b ≥ 1
  · have h2 : b.tdiv 2 = b / 2 := Int.tdiv_eq_ediv_of_nonneg (by omega)
    have hw : IntKind.i64.wrap (b / 2) = b / 2 := IntWalk.i64_in _ (by omega)
    simp [Try.f37, h1, quo, h2, hw]
  · simp [Try.f37, h1, quo]
end Go.Proofs.Ytehjeifbgegabaa.EVT
