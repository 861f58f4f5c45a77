/- Chapter 40: the reference's check of a ballot; the law VoteNews. -/
import Derived.Test.YtehjeifbgegabaaVoteE
set_option linter.unusedVariables false
set_option linter.unusedSimpArgs false
set_option maxRecDepth 100000
set_option maxHeartbeats 1000000
namespace Go.Proofs.Ytehjeifbgegabaa.EVT
open Go Go.EV
attribute [local simp] finF outX evC_skip evC_region thenX_go thenX_ret thenX_exit evC_seq condX_t condX_f evC_cond blockX_go blockX_ret blockX_exit evC_block evC_loop evC_exit evC_ret runOps runD chkS readsR stepD qD mkR wantedX opStep isEff opq x1 x2 x3 q1 intX freezeL freeze addR put dstOf upd St.ev ofConst binv arith strop unv pickX resX leave reiL reiX rei frzL frz oneX tdOf Op.operands Option.bind X.refs refsL an enterX imp impL eff storeX storeIn nav setAt inAr fits X.size sizeL X.agg X.isBot X.isTup X.arD TD.agg buildX fillX ldV fldA fldV offs buildSlX sliceX idxA idxV lenV lenX elems callX X.flat flatL Call.operands T3 T4 T22 T24 T26 T34 T37 firstReg LoopOk loopStep nrmLa adoptL adopt dropIf keepT keepR X.kill killL is_len is_get
def inB (b a c : Int) : Bool := decide (b ≤ a) && decide (a ≤ c)
theorem inB_t {b a c : Int} (h : inB b a c = true) : b ≤ a ∧ a ≤ c := by simpa [inB] using h
theorem inB_f {b a c : Int} (h : inB b a c = false) : ¬ (b ≤ a ∧ a ≤ c) := by intro h2; simp [inB, h2] at h
theorem refCheck_ok {k : Nat} {nd ns tm rl vd ld : Int} {vs : List Int} {fl : Bool} (hlen : vs.length ≤ maxLen) (hk : vs.length + 6 ≤ k) : E k 12 [bl nd ns tm rl vd ld (.sl fl (is vs))] = some (.i .i64 (chk nd ns tm rl vd ld vs), []) := by
  obtain ⟨k, rfl⟩ : ∃ j, k = j + 1 := ⟨k - 1, by omega⟩
  rw [E_body (c := _) fns12 rfl rfl rfl]
  have hin : ∀ a b c, E k 20 [.i .i64 a, .i .i64 b, .i .i64 c] = some (.b (inB b a c), []) := fun a b c => in_ok (k := k) (by omega) a b c
  unfold bl
  cases hb1 : inB 1 ns 7
  · have hN : ¬ okN nd ns := fun h => inB_f hb1 ⟨h.1, h.2.1⟩
    simp only [chk, hN, not_false_eq_true, if_true]
    simp [Try.f12, hin, hb1]
  have q1 := inB_t hb1
  have hw : IntKind.i64.wrap (ns - 1) = ns - 1 := IntWalk.i64_in _ (by omega)
  cases hb2 : inB 0 nd (ns - 1)
  · have hN : ¬ okN nd ns := fun h => inB_f hb2 ⟨h.2.2.1, by have := h.2.2.2; omega⟩
    simp only [chk, hN, not_false_eq_true, if_true]
    simp [Try.f12, hin, hb1, hb2, hw]
  have q2 := inB_t hb2
  have hN : okN nd ns := ⟨q1.1, q1.2, q2.1, by omega⟩
  cases hb3 : inB 0 tm 1099511627776
  · have h1 : tm < 0 ∨ tm > 1099511627776 := by have := inB_f hb3; omega
    simp only [chk, hN, not_true, if_false, h1, if_true]
    simp [Try.f12, hin, hb1, hb2, hb3, hw]
  have q3 := inB_t hb3
  have h1 : ¬ (tm < 0 ∨ tm > 1099511627776) := by omega
  cases hb4 : inB 0 rl 2
  · have h2 : rl ≠ 0 ∧ rl ≠ 1 ∧ rl ≠ 2 := by have := inB_f hb4; omega
    simp only [chk, hN, not_true, if_false, h1, if_pos h2]
    simp [Try.f12, hin, hb1, hb2, hb3, hb4, hw]
  have q4 := inB_t hb4
  have h2 : ¬ (rl ≠ 0 ∧ rl ≠ 1 ∧ rl ≠ 2) := by omega
  cases hb5 : inB (-1) vd (ns - 1)
  · have h3 : vd < -1 ∨ vd ≥ ns ∨ ld < -1 ∨ ld ≥ ns := by have := inB_f hb5; omega
    simp only [chk, hN, not_true, if_false, h1, if_neg h2, if_pos h3]
    simp [Try.f12, hin, hb1, hb2, hb3, hb4, hb5, hw]
  have q5 := inB_t hb5
  cases hb6 : inB (-1) ld (ns - 1)
  · have h3 : vd < -1 ∨ vd ≥ ns ∨ ld < -1 ∨ ld ≥ ns := by have := inB_f hb6; omega
    simp only [chk, hN, not_true, if_false, h1, if_neg h2, if_pos h3]
    simp [Try.f12, hin, hb1, hb2, hb3, hb4, hb5, hb6, hw]
  have q6 := inB_t hb6
  have h3 : ¬ (vd < -1 ∨ vd ≥ ns ∨ ld < -1 ∨ ld ≥ ns) := by omega
  have hc := role_ok (k := k) (nd := nd) (ns := ns) (tm := tm) (rl := rl) (vd := vd) (ld := ld) (vs := vs) (fl := fl) (by omega) hlen (by omega) (by omega)
  unfold bl at hc
  simp only [chk, hN, not_true, if_false, h1, if_neg h2, if_neg h3]
  simp [Try.f12, hin, hb1, hb2, hb3, hb4, hb5, hb6, hw]
  generalize hq : runLoop _ _ _ _ _ _ _ = q
  obtain ⟨e, S', rfl, hQ⟩ := loop12 (k := k) (nd := nd) (ns := ns) (tm := tm) (rl := rl) (vd := vd) (ld := ld) (vs := vs) (fl := fl) (by omega) q1 hlen _ _ (by simp [I12, pv]) (by omega) _ hq
  clear hq
  rcases hQ with ⟨g1, rfl, g2⟩ | ⟨g1, rfl, g2, g3⟩
  · simp [g2, g1]
  · cases hcc : cons nd ns tm rl vd ld vs
    · rw [hcc] at hc
      simp [g1, g2, g3, hc]
    · rw [hcc] at hc
      simp [g1, g2, g3, hc]
end Go.Proofs.Ytehjeifbgegabaa.EVT
