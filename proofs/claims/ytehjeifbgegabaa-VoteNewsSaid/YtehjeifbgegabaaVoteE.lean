/- Chapter 40: the two checks of a ballot. -/
import Derived.Test.YtehjeifbgegabaaVoteD
set_option linter.unusedVariables false
set_option linter.unusedSimpArgs false
set_option maxRecDepth 100000
set_option maxHeartbeats 1000000
namespace Go.Proofs.Ytehjeifbgegabaa.EVT
open Go Go.EV
attribute [local simp] finF outX evC_skip evC_region thenX_go thenX_ret thenX_exit evC_seq condX_t condX_f evC_cond blockX_go blockX_ret blockX_exit evC_block evC_loop evC_exit evC_ret runOps runD chkS readsR stepD qD mkR wantedX opStep isEff opq x1 x2 x3 q1 intX freezeL freeze addR put dstOf upd St.ev ofConst binv arith strop unv pickX resX leave reiL reiX rei frzL frz oneX tdOf Op.operands Option.bind X.refs refsL an enterX imp impL eff storeX storeIn nav setAt inAr fits X.size sizeL X.agg X.isBot X.isTup X.arD TD.agg buildX fillX ldV fldA fldV offs buildSlX sliceX idxA idxV lenV lenX elems callX X.flat flatL Call.operands T3 T4 T22 T24 T26 T34 T37 firstReg LoopOk loopStep nrmLa adoptL adopt dropIf keepT keepR X.kill killL is_len is_get
def okN (nd ns : Int) : Prop := 1 ≤ ns ∧ ns ≤ 7 ∧ 0 ≤ nd ∧ nd < ns
instance (nd ns : Int) : Decidable (okN nd ns) := by unfold okN; infer_instance
def chk (nd ns tm rl vd ld : Int) (vs : List Int) : Int :=
  if ¬ okN nd ns then 1 else if tm < 0 ∨ tm > 1099511627776 then 1 else if rl ≠ 0 ∧ rl ≠ 1 ∧ rl ≠ 2 then 10
  else if vd < -1 ∨ vd ≥ ns ∨ ld < -1 ∨ ld ≥ ns then 1 else if vchk ns none vs ≠ 0 then vchk ns none vs else if cons nd ns tm rl vd ld vs = true then 0 else 9
theorem check_ok {k : Nat} {nd ns tm rl vd ld : Int} {vs : List Int} {fl : Bool} (hlen : vs.length ≤ maxLen) (hk : vs.length + 6 ≤ k) : E k 11 [bl nd ns tm rl vd ld (.sl fl (is vs))] = some (.i .i64 (chk nd ns tm rl vd ld vs), []) := by
  obtain ⟨k, rfl⟩ : ∃ j, k = j + 1 := ⟨k - 1, by omega⟩
  rw [E_body (c := _) fns11 rfl rfl rfl]
  have hnew := new_ok (k := k) (by omega) nd ns
  unfold newR at hnew
  unfold bl at *
  by_cases hN : okN nd ns
  case neg =>
    have hN' := hN
    unfold okN at hN'
    rw [if_neg hN'] at hnew
    simp [Try.f11, hnew, chk, hN]
  have hN' := hN
  unfold okN at hN'
  rw [if_pos hN'] at hnew
  have hns : ns ≤ 9223372036854775807 := by omega
  have hc := cons_ok (k := k) (nd := nd) (ns := ns) (tm := tm) (rl := rl) (vd := vd) (ld := ld) (vs := vs) (fl := fl) hns hlen (by omega)
  unfold bl at hc
  by_cases h1 : tm < 0
  · simp [Try.f11, hnew, chk, hN, h1]
  by_cases h2 : tm > 1099511627776
  · simp [Try.f11, hnew, chk, hN, h1, h2]
  by_cases h3 : rl ≠ 0 ∧ rl ≠ 1 ∧ rl ≠ 2
  · have e0 : (rl != 0) = true := by simpa using h3.1
    have e1 : (rl != 1) = true := by simpa using h3.2.1
    have e2 : (rl != 2) = true := by simpa using h3.2.2
    simp [Try.f11, hnew, chk, hN, h1, h2, h3, e0, e1, e2]
  have h3' : rl = 0 ∨ rl = 1 ∨ rl = 2 := by omega
  rcases h3' with hr | hr | hr
  · have e0 : (rl != 0) = false := by simp [hr]
    by_cases h4 : vd < -1
    · simp [Try.f11, hnew, chk, hN, h1, h2, h3, e0, h4]
    by_cases h5 : vd ≥ ns
    · simp [Try.f11, hnew, chk, hN, h1, h2, h3, e0, h4, h5]
    by_cases h6 : ld < -1
    · simp [Try.f11, hnew, chk, hN, h1, h2, h3, e0, h4, h5, h6]
    by_cases h7 : ld ≥ ns
    · simp [Try.f11, hnew, chk, hN, h1, h2, h3, e0, h4, h5, h6, h7]
    have hv : ¬ (vd < -1 ∨ vd ≥ ns ∨ ld < -1 ∨ ld ≥ ns) := by omega
    simp [Try.f11, hnew, h1, h2, e0, h4, h5, h6, h7]
    generalize hq : runLoop _ _ _ _ _ _ _ = q
    obtain ⟨e, S', rfl, hQ⟩ := loop11 (k := k) (nd := nd) (ns := ns) (tm := tm) (rl := rl) (vd := vd) (ld := ld) (vs := vs) (fl := fl) (by omega) (by omega) hlen _ _ (by simp [I11, pv]) (by omega) _ hq
    clear hq
    rcases hQ with ⟨g1, rfl, g2⟩ | ⟨g1, rfl, g2, g3⟩
    · simp only [chk, hN, not_true, if_false, h1, h2, or_self, h3, hv, g1, ne_eq, not_false_eq_true, if_true]
      simp [g2]
    · cases hcc : cons nd ns tm rl vd ld vs
      · rw [hcc] at hc
        simp only [chk, hN, not_true, if_false, h1, h2, or_self, h3, hv, g1, ne_eq, hcc, Bool.false_eq_true]
        simp [g2, g3, hc]
      · rw [hcc] at hc
        simp only [chk, hN, not_true, if_false, h1, h2, or_self, h3, hv, g1, ne_eq, hcc, if_true]
        simp [g2, g3, hc]
  · have e0 : (rl != 0) = true := by simp [hr]
    have e1 : (rl != 1) = false := by simp [hr]
    by_cases h4 : vd < -1
    · simp [Try.f11, hnew, chk, hN, h1, h2, h3, e0, e1, h4]
    by_cases h5 : vd ≥ ns
    · simp [Try.f11, hnew, chk, hN, h1, h2, h3, e0, e1, h4, h5]
    by_cases h6 : ld < -1
    · simp [Try.f11, hnew, chk, hN, h1, h2, h3, e0, e1, h4, h5, h6]
    by_cases h7 : ld ≥ ns
    · simp [Try.f11, hnew, chk, hN, h1, h2, h3, e0, e1, h4, h5, h6, h7]
    have hv : ¬ (vd < -1 ∨ vd ≥ ns ∨ ld < -1 ∨ ld ≥ ns) := by omega
    simp [Try.f11, hnew, h1, h2, e0, e1, h4, h5, h6, h7]
    generalize hq : runLoop _ _ _ _ _ _ _ = q
    obtain ⟨e, S', rfl, hQ⟩ := loop11 (k := k) (nd := nd) (ns := ns) (tm := tm) (rl := rl) (vd := vd) (ld := ld) (vs := vs) (fl := fl) (by omega) (by omega) hlen _ _ (by simp [I11, pv]) (by omega) _ hq
    clear hq
    rcases hQ with ⟨g1, rfl, g2⟩ | ⟨g1, rfl, g2, g3⟩
    · simp only [chk, hN, not_true, if_false, h1, h2, or_self, h3, hv, g1, ne_eq, not_false_eq_true, if_true]
      simp [g2]
    · cases hcc : cons nd ns tm rl vd ld vs
      · rw [hcc] at hc
        simp only [chk, hN, not_true, if_false, h1, h2, or_self, h3, hv, g1, ne_eq, hcc, Bool.false_eq_true]
        simp [g2, g3, hc]
      · rw [hcc] at hc
        simp only [chk, hN, not_true, if_false, h1, h2, or_self, h3, hv, g1, ne_eq, hcc, if_true]
        simp [g2, g3, hc]
  · have e0 : (rl != 0) = true := by simp [hr]
    have e1 : (rl != 1) = true := by simp [hr]
    have e2 : (rl != 2) = false := by simp [hr]
    by_cases h4 : vd < -1
    · simp [Try.f11, hnew, chk, hN, h1, h2, h3, e0, e1, e2, h4]
    by_cases h5 : vd ≥ ns
    · simp [Try.f11, hnew, chk, hN, h1, h2, h3, e0, e1, e2, h4, h5]
    by_cases h6 : ld < -1
    · simp [Try.f11, hnew, chk, hN, h1, h2, h3, e0, e1, e2, h4, h5, h6]
    by_cases h7 : ld ≥ ns
    · simp [Try.f11, hnew, chk, hN, h1, h2, h3, e0, e1, e2, h4, h5, h6, h7]
    have hv : ¬ (vd < -1 ∨ vd ≥ ns ∨ ld < -1 ∨ ld ≥ ns) := by omega
    simp [Try.f11, hnew, h1, h2, e0, e1, e2, h4, h5, h6, h7]
    generalize hq : runLoop _ _ _ _ _ _ _ = q
    obtain ⟨e, S', rfl, hQ⟩ := loop11 (k := k) (nd := nd) (ns := ns) (tm := tm) (rl := rl) (vd := vd) (ld := ld) (vs := vs) (fl := fl) (by omega) (by omega) hlen _ _ (by simp [I11, pv]) (by omega) _ hq
    clear hq
    rcases hQ with ⟨g1, rfl, g2⟩ | ⟨g1, rfl, g2, g3⟩
    · simp only [chk, hN, not_true, if_false, h1, h2, or_self, h3, hv, g1, ne_eq, not_false_eq_true, if_true]
      simp [g2]
    · cases hcc : cons nd ns tm rl vd ld vs
      · rw [hcc] at hc
        simp only [chk, hN, not_true, if_false, h1, h2, or_self, h3, hv, g1, ne_eq, hcc, Bool.false_eq_true]
        simp [g2, g3, hc]
      · rw [hcc] at hc
        simp only [chk, hN, not_true, if_false, h1, h2, or_self, h3, hv, g1, ne_eq, hcc, if_true]
        simp [g2, g3, hc]
end Go.Proofs.Ytehjeifbgegabaa.EVT
