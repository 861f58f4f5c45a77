/- Chapter 40: the two checks of a ballot: their loops. -/
import Derived.Test.YtehjeifbgegabaaVoteC
set_option linter.unusedVariables false
set_option linter.unusedSimpArgs false
set_option maxRecDepth 100000
set_option maxHeartbeats 1000000
namespace Go.Proofs.Ytehjeifbgegabaa.EVT
open Go Go.EV
attribute [local simp] finF outX evC_skip evC_region thenX_go thenX_ret thenX_exit evC_seq condX_t condX_f evC_cond blockX_go blockX_ret blockX_exit evC_block evC_loop evC_exit evC_ret runOps runD chkS readsR stepD qD mkR wantedX opStep isEff opq x1 x2 x3 q1 intX freezeL freeze addR put dstOf upd St.ev ofConst binv arith strop unv pickX resX leave reiL reiX rei frzL frz oneX tdOf Op.operands Option.bind X.refs refsL an enterX imp impL eff storeX storeIn nav setAt inAr fits X.size sizeL X.agg X.isBot X.isTup X.arD TD.agg buildX fillX ldV fldA fldV offs buildSlX sliceX idxA idxV lenV lenX elems callX X.flat flatL Call.operands T3 T4 T22 T24 T26 T34 T37 firstReg LoopOk loopStep nrmLa adoptL adopt dropIf keepT keepR X.kill killL is_len is_get
def leP : Int → Option Int → Bool
  | v, some q => decide (v ≤ q)
  | _, none => false
/-- The votes, one after the other. -/
def vchk (ns : Int) : Option Int → List Int → Int
  | _, [] => 0
  | p, v :: r => if v < 0 ∨ v ≥ ns then 1 else if leP v p then 22 else vchk ns (some v) r
def pv (vs : List Int) : Nat → Option Int
  | 0 => none
  | i + 1 => vs[i]?
noncomputable def b11 : Code := loopOf Try.f11 0
def I11 (nd ns tm rl vd ld : Int) (vs : List Int) (fl : Bool) (j : Nat) (S : St) : Prop :=
  j ≤ vs.length ∧ S.t 1 = .pt 1 0 [] ∧ S.r 1 = some (.ag [.i .i64 nd, .i .i64 ns, .i .i64 tm, .i .i64 rl, .i .i64 vd, .i .i64 ld, .sl fl (is vs)]) ∧ S.t 62 = .sl fl (is vs) ∧ S.t 63 = .i .i64 vs.length ∧ S.t 64 = .i .i64 j ∧ vchk ns (pv vs j) (vs.drop j) = vchk ns none vs
def Q11 (nd ns tm rl vd ld : Int) (vs : List Int) (fl : Bool) (e : Ex) (S : St) : Prop :=
  (vchk ns none vs ≠ 0 ∧ e = .ret ∧ S.t 2 = .i .i64 (vchk ns none vs)) ∨ (vchk ns none vs = 0 ∧ e = .exit 0 ∧ S.t 1 = .pt 1 0 [] ∧ S.r 1 = some (.ag [.i .i64 nd, .i .i64 ns, .i .i64 tm, .i .i64 rl, .i .i64 vd, .i .i64 ld, .sl fl (is vs)]))
theorem loop11 {k : Nat} {nd ns tm rl vd ld : Int} {vs : List Int} {fl : Bool} (hk : 1 ≤ k) (hns : 1 ≤ ns ∧ ns ≤ 7) (hlen : vs.length ≤ maxLen) (m : Nat) (S : St) (hI : I11 nd ns tm rl vd ld vs fl 0 S) (hm : vs.length < m) :
    ∀ q, iter (nrm 11 11) (evC T (E k) an (nrm 11) k b11) m S = q → ∃ e S', q = some (e, S') ∧ Q11 nd ns tm rl vd ld vs fl e S' := by
  refine iter_rule (N := vs.length) (I11 nd ns tm rl vd ld vs fl) _ (fun j S h => h.1) (fun j S hI => ?_) m 0 S hI (by omega)
  obtain ⟨hj, h0, h1, h2, h3, h4, h5⟩ := hI
  by_cases hlt : j < vs.length
  · have hw := wrap1 hlt hlen
    rw [List.drop_eq_getElem_cons hlt, vchk] at h5
    by_cases hb1 : vs[j] < 0
    · simp only [hb1, true_or, if_true] at h5
      simp [nrm11_11, b11, loopOf, loopsOf, Try.f11, h0, h1, h2, h3, h4, hlt, Q11, I11, hb1, ← h5]
    by_cases hb2 : vs[j] ≥ ns
    · simp only [hb2, or_true, if_true] at h5
      simp [nrm11_11, b11, loopOf, loopsOf, Try.f11, h0, h1, h2, h3, h4, hlt, Q11, I11, hb1, hb2, ← h5]
    simp only [hb1, hb2, or_self, if_false] at h5
    cases j with
    | zero =>
      simp only [pv, leP, if_false, Bool.false_eq_true] at h5
      have hw0 : IntKind.i64.wrap 1 = 1 := rfl
      simp [nrm11_11, b11, loopOf, loopsOf, Try.f11, h0, h1, h2, h3, h4, hlt, Q11, I11, hb1, hb2, pv, hw0]
      exact ⟨by omega, by simpa using h5⟩
    | succ i =>
      have hi : i < vs.length := by omega
      have g1 : (i : Int) + 1 < vs.length := by omega
      have g2 : ((i : Int) + 1).toNat = i + 1 := by omega
      have g3 : 0 ≤ (i : Int) + 1 := by omega
      have g4 : 0 < (i : Int) + 1 := by omega
      have g5 : i + 1 + 1 ≤ vs.length := hlt
      have hw2 : IntKind.i64.wrap (i : Int) = i := IntWalk.i64_in _ (by unfold maxLen at hlen; omega)
      have hpv : pv vs (i + 1) = some vs[i] := by simp [pv, hi]
      rw [hpv, leP] at h5
      by_cases hb3 : vs[i + 1] ≤ vs[i]
      · simp only [hb3, decide_true, if_true] at h5
        simp [nrm11_11, b11, loopOf, loopsOf, Try.f11, h0, h1, h2, h3, h4, hlt, Q11, I11, hb1, hb2, hi, hw2, g1, g2, g3, g4, g5, hb3, ← h5]
      · simp only [hb3, decide_false, if_false, Bool.false_eq_true] at h5
        have hw3 : IntKind.i64.wrap ((i : Int) + 1 + 1) = (i : Int) + 1 + 1 := by simpa using hw
        simp [nrm11_11, b11, loopOf, loopsOf, Try.f11, h0, h1, h2, h3, h4, hlt, Q11, I11, hb1, hb2, hi, hw2, g1, g2, g3, g4, g5, hb3, hw3, pv]
        simpa using h5
  · rw [List.drop_eq_nil_of_le (by omega), vchk] at h5
    have h6 : vchk ns none vs = 0 := h5.symm
    simp [nrm11_11, b11, loopOf, loopsOf, Try.f11, h0, h1, h2, h3, h4, hlt, Q11, h6]
noncomputable def b12 : Code := loopOf Try.f12 0
def I12 (nd ns tm rl vd ld : Int) (vs : List Int) (fl : Bool) (j : Nat) (S : St) : Prop :=
  j ≤ vs.length ∧ S.t 1 = .pt 1 0 [] ∧ S.r 1 = some (.ag [.i .i64 nd, .i .i64 ns, .i .i64 tm, .i .i64 rl, .i .i64 vd, .i .i64 ld, .sl fl (is vs)]) ∧ S.t 45 = .sl fl (is vs) ∧ S.t 46 = .i .i64 vs.length ∧ S.t 47 = .i .i64 j ∧ vchk ns (pv vs j) (vs.drop j) = vchk ns none vs
def Q12 (nd ns tm rl vd ld : Int) (vs : List Int) (fl : Bool) (e : Ex) (S : St) : Prop :=
  (vchk ns none vs ≠ 0 ∧ e = .ret ∧ S.t 2 = .i .i64 (vchk ns none vs)) ∨ (vchk ns none vs = 0 ∧ e = .exit 0 ∧ S.t 1 = .pt 1 0 [] ∧ S.r 1 = some (.ag [.i .i64 nd, .i .i64 ns, .i .i64 tm, .i .i64 rl, .i .i64 vd, .i .i64 ld, .sl fl (is vs)]))
theorem loop12 {k : Nat} {nd ns tm rl vd ld : Int} {vs : List Int} {fl : Bool} (hk : 1 ≤ k) (hns : 1 ≤ ns ∧ ns ≤ 7) (hlen : vs.length ≤ maxLen) (m : Nat) (S : St) (hI : I12 nd ns tm rl vd ld vs fl 0 S) (hm : vs.length < m) :
    ∀ q, iter (nrm 12 8) (evC T (E k) an (nrm 12) k b12) m S = q → ∃ e S', q = some (e, S') ∧ Q12 nd ns tm rl vd ld vs fl e S' := by
  refine iter_rule (N := vs.length) (I12 nd ns tm rl vd ld vs fl) _ (fun j S h => h.1) (fun j S hI => ?_) m 0 S hI (by omega)
  obtain ⟨hj, h0, h1, h2, h3, h4, h5⟩ := hI
  by_cases hlt : j < vs.length
  · have hw := wrap1 hlt hlen
    rw [List.drop_eq_getElem_cons hlt, vchk] at h5
    have hin := fun a b c => in_ok (k := k) hk a b c
    have hwn : IntKind.i64.wrap (ns - 1) = ns - 1 := IntWalk.i64_in _ (by omega)
    by_cases hb1 : vs[j] < 0
    · simp only [hb1, true_or, if_true] at h5
      have hb0 : ¬ 0 ≤ vs[j] := by omega
      simp [nrm12_8, b12, loopOf, loopsOf, Try.f12, h0, h1, h2, h3, h4, hlt, Q12, I12, hin, hwn, hb0, ← h5]
    by_cases hb2 : vs[j] ≥ ns
    · simp only [hb2, or_true, if_true] at h5
      have hb0 : ¬ vs[j] ≤ ns - 1 := by omega
      simp [nrm12_8, b12, loopOf, loopsOf, Try.f12, h0, h1, h2, h3, h4, hlt, Q12, I12, hin, hwn, hb0, ← h5]
    simp only [hb1, hb2, or_self, if_false] at h5
    have hb8 : 0 ≤ vs[j] := by omega
    have hb9 : vs[j] ≤ ns - 1 := by omega
    cases j with
    | zero =>
      simp only [pv, leP, if_false, Bool.false_eq_true] at h5
      have hw0 : IntKind.i64.wrap 1 = 1 := rfl
      simp [nrm12_8, b12, loopOf, loopsOf, Try.f12, h0, h1, h2, h3, h4, hlt, Q12, I12, hin, hwn, hb8, hb9, pv, hw0]
      exact ⟨by omega, by simpa using h5⟩
    | succ i =>
      have hi : i < vs.length := by omega
      have g1 : (i : Int) + 1 < vs.length := by omega
      have g2 : ((i : Int) + 1).toNat = i + 1 := by omega
      have g3 : 0 ≤ (i : Int) + 1 := by omega
      have g4 : 0 < (i : Int) + 1 := by omega
      have g5 : i + 1 + 1 ≤ vs.length := hlt
      have hw2 : IntKind.i64.wrap (i : Int) = i := IntWalk.i64_in _ (by unfold maxLen at hlen; omega)
      have hpv : pv vs (i + 1) = some vs[i] := by simp [pv, hi]
      rw [hpv, leP] at h5
      by_cases hb3 : vs[i + 1] ≤ vs[i]
      · simp only [hb3, decide_true, if_true] at h5
        simp [nrm12_8, b12, loopOf, loopsOf, Try.f12, h0, h1, h2, h3, h4, hlt, Q12, I12, hin, hwn, hb8, hb9, hi, hw2, g1, g2, g3, g4, g5, hb3, ← h5]
      · simp only [hb3, decide_false, if_false, Bool.false_eq_true] at h5
        have hw3 : IntKind.i64.wrap ((i : Int) + 1 + 1) = (i : Int) + 1 + 1 := by simpa using hw
        simp [nrm12_8, b12, loopOf, loopsOf, Try.f12, h0, h1, h2, h3, h4, hlt, Q12, I12, hin, hwn, hb8, hb9, hi, hw2, g1, g2, g3, g4, g5, hb3, hw3, pv]
        simpa using h5
  · rw [List.drop_eq_nil_of_le (by omega), vchk] at h5
    have h6 : vchk ns none vs = 0 := h5.symm
    simp [nrm12_8, b12, loopOf, loopsOf, Try.f12, h0, h1, h2, h3, h4, hlt, Q12, h6]
end Go.Proofs.Ytehjeifbgegabaa.EVT
