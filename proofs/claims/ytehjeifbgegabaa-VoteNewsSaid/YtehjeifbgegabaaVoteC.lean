/- Chapter 40: what a ballot's role asks. -/
import Derived.Test.YtehjeifbgegabaaVoteB
set_option linter.unusedVariables false
set_option linter.unusedSimpArgs false
set_option maxRecDepth 100000
set_option maxHeartbeats 1000000
namespace Go.Proofs.Ytehjeifbgegabaa.EVT
open Go Go.EV
attribute [local simp] finF outX evC_skip evC_region thenX_go thenX_ret thenX_exit evC_seq condX_t condX_f evC_cond blockX_go blockX_ret blockX_exit evC_block evC_loop evC_exit evC_ret runOps runD chkS readsR stepD qD mkR wantedX opStep isEff opq x1 x2 x3 q1 intX freezeL freeze addR put dstOf upd St.ev ofConst binv arith strop unv pickX resX leave reiL reiX rei frzL frz oneX tdOf Op.operands Option.bind X.refs refsL an enterX imp impL eff storeX storeIn nav setAt inAr fits X.size sizeL X.agg X.isBot X.isTup X.arD TD.agg buildX fillX ldV fldA fldV offs buildSlX sliceX idxA idxV lenV lenX elems callX X.flat flatL Call.operands T3 T4 T22 T24 T26 T34 T37 firstReg LoopOk loopStep nrmLa adoptL adopt dropIf keepT keepR X.kill killL is_len
def cons (nd ns tm rl vd ld : Int) (vs : List Int) : Bool :=
  !(tm == 0 && (rl != 0 || vd != -1 || ld != -1)) &&
  (if (rl == 1) = true then vd == nd && ld == -1 && decide (nd ∈ vs) && !quo vs.length ns
   else if (rl == 2) = true then vd == nd && ld == nd && ((vs.length : Int) == 0)
   else ((vs.length : Int) == 0) && ld != nd)
theorem cons_ok {k : Nat} {nd ns tm rl vd ld : Int} {vs : List Int} {fl : Bool} (hns : ns ≤ 9223372036854775807) (hlen : vs.length ≤ maxLen) (hk : vs.length + 4 ≤ k) : E k 22 [bl nd ns tm rl vd ld (.sl fl (is vs))] = some (.b (cons nd ns tm rl vd ld vs), []) := by
  obtain ⟨k, rfl⟩ : ∃ j, k = j + 1 := ⟨k - 1, by omega⟩
  rw [E_body (c := _) fns22 rfl rfl rfl]
  have hct := contains_ok (k := k) (vs := vs) (fl := fl) (v := nd) hlen (by omega)
  have hqu := quorum_ok (k := k) (by omega) vs.length ns hns
  unfold bl
  cases h1 : (tm == 0)
  · cases h5 : (rl == 1)
    · cases h4 : (rl == 2)
      · cases h6 : ((vs.length : Int) == 0)
        · simp [Try.f22, cons, h1, h5, h4, h6]
        · simp [Try.f22, cons, h1, h5, h4, h6]
      · cases h6 : (vd == nd)
        · simp [Try.f22, cons, h1, h5, h4, h6]
        · cases h7 : (ld == nd)
          · simp [Try.f22, cons, h1, h5, h4, h6, h7]
          · simp [Try.f22, cons, h1, h5, h4, h6, h7]
    · cases h6 : (vd == nd)
      · simp [Try.f22, cons, h1, h5, h6]
      · cases h7 : (ld == -1)
        · simp [Try.f22, cons, h1, h5, h6, h7]
        · by_cases h8 : nd ∈ vs
          · simp [Try.f22, cons, h1, h5, h6, h7, h8, hct, hqu]
          · simp [Try.f22, cons, h1, h5, h6, h7, h8, hct]
  · cases h2 : (rl != 0)
    · cases h3 : (vd != -1)
      · cases h4 : (ld != -1)
        · have e1 : rl = 0 := by simpa using h2
          have e2 : vd = -1 := by simpa using h3
          have e3 : ld = -1 := by simpa using h4
          subst e1; subst e2; subst e3
          cases h6 : ((vs.length : Int) == 0)
          · simp [Try.f22, cons, h1, h6]
          · simp [Try.f22, cons, h1, h6]
        · simp [Try.f22, cons, h1, h2, h3, h4]
      · simp [Try.f22, cons, h1, h2, h3]
    · simp [Try.f22, cons, h1, h2]
theorem role_ok {k : Nat} {nd ns tm rl vd ld : Int} {vs : List Int} {fl : Bool} (hns : ns ≤ 9223372036854775807) (hlen : vs.length ≤ maxLen) (hk : vs.length + 4 ≤ k) (hrl : rl = 0 ∨ rl = 1 ∨ rl = 2) : E k 23 [bl nd ns tm rl vd ld (.sl fl (is vs))] = some (.b (cons nd ns tm rl vd ld vs), []) := by
  obtain ⟨k, rfl⟩ : ∃ j, k = j + 1 := ⟨k - 1, by omega⟩
  rw [E_body (c := _) fns23 rfl rfl rfl]
  have hct := contains_ok (k := k) (vs := vs) (fl := fl) (v := nd) hlen (by omega)
  have hqu := refQuorum_ok (k := k) (by omega) vs.length ns hns
  unfold bl
  cases h1 : (tm == 0)
  · rcases hrl with rfl | rfl | rfl
    · cases h6 : ((vs.length : Int) == 0)
      · simp [Try.f23, cons, h1, h6]
      · simp [Try.f23, cons, h1, h6]
    · cases h6 : (vd == nd)
      · simp [Try.f23, cons, h1, h6]
      · cases h7 : (ld == -1)
        · simp [Try.f23, cons, h1, h6, h7]
        · by_cases h8 : nd ∈ vs
          · simp [Try.f23, cons, h1, h6, h7, h8, hct, hqu]
          · simp [Try.f23, cons, h1, h6, h7, h8, hct]
    · cases h6 : (vd == nd)
      · simp [Try.f23, cons, h1, h6]
      · cases h7 : (ld == nd)
        · simp [Try.f23, cons, h1, h6, h7]
        · simp [Try.f23, cons, h1, h6, h7]
  · cases h2 : (rl != 0)
    · cases h3 : (vd != -1)
      · cases h4 : (ld != -1)
        · have e1 : rl = 0 := by simpa using h2
          have e2 : vd = -1 := by simpa using h3
          have e3 : ld = -1 := by simpa using h4
          subst e1; subst e2; subst e3
          cases h6 : ((vs.length : Int) == 0)
          · simp [Try.f23, cons, h1, h6]
          · simp [Try.f23, cons, h1, h6]
        · simp [Try.f23, cons, h1, h2, h3, h4]
      · simp [Try.f23, cons, h1, h2, h3]
    · simp [Try.f23, cons, h1, h2]
end Go.Proofs.Ytehjeifbgegabaa.EVT
