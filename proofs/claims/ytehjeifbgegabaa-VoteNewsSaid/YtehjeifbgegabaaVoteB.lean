/- Chapter 40: the loops of slices. -/
import Derived.Test.YtehjeifbgegabaaVoteA
set_option linter.unusedVariables false
set_option linter.unusedSimpArgs false
set_option maxRecDepth 100000
namespace Go.Proofs.Ytehjeifbgegabaa.EVT
open Go Go.EV
attribute [local simp] finF outX evC_skip evC_region thenX_go thenX_ret thenX_exit evC_seq condX_t condX_f evC_cond blockX_go blockX_ret blockX_exit evC_block evC_loop evC_exit evC_ret runOps runD chkS readsR stepD qD mkR wantedX opStep isEff opq x1 x2 x3 q1 intX freezeL freeze addR put dstOf upd St.ev ofConst binv arith strop unv pickX resX leave reiL reiX rei frzL frz oneX tdOf Op.operands Option.bind X.refs refsL an enterX imp impL eff storeX storeIn nav setAt inAr fits X.size sizeL X.agg X.isBot X.isTup X.arD TD.agg buildX fillX ldV fldA fldV offs buildSlX sliceX idxA idxV lenV lenX elems callX X.flat flatL Call.operands T3 T4 T22 T24 T26 T34 T37 firstReg LoopOk loopStep nrmLa adoptL adopt dropIf keepT keepR X.kill killL
def is (vs : List Int) : List X := vs.map (X.i .i64)
@[local simp] theorem is_get (vs : List Int) (j : Nat) (h : j < (is vs).length) : (is vs)[j] = .i .i64 (vs[j]'(by simpa [is] using h)) := by simp [is]
@[local simp] theorem is_len (vs : List Int) : (is vs).length = vs.length := by simp [is]
theorem wrap1 {j n : Nat} (h : j < n) (hn : n ≤ maxLen) : IntKind.i64.wrap ((j : Int) + 1) = ((j + 1 : Nat) : Int) := by
  unfold maxLen at hn
  rw [IntWalk.i64_in _ (by omega)]
  simp
noncomputable def b44 : Code := loopOf Try.f44 0
theorem index_loop {k : Nat} {vs : List Int} {fl : Bool} {v : Int} (hlen : vs.length ≤ maxLen) (m j : Nat) (S : St) (hI : j ≤ vs.length ∧ S.t 0 = .sl fl (is vs) ∧ S.t 1 = .i .i64 v ∧ S.t 7 = .i .i64 vs.length ∧ S.t 8 = .i .i64 j ∧ v ∉ vs.take j) (hm : vs.length < m + j) :
    ∀ q, iter (nrm 44 2) (evC T (E k) an (nrm 44) k b44) m S = q → ∃ e S', q = some (e, S') ∧ ((v ∈ vs ∧ e = .ret ∧ ∃ z : Nat, S'.t 4 = .i .i64 z) ∨ (v ∉ vs ∧ e = .exit 0)) := by
  refine iter_rule (N := vs.length) (fun j S => j ≤ vs.length ∧ S.t 0 = .sl fl (is vs) ∧ S.t 1 = .i .i64 v ∧ S.t 7 = .i .i64 vs.length ∧ S.t 8 = .i .i64 j ∧ v ∉ vs.take j) _ (fun j S h => h.1) (fun j S hI => ?_) m j S hI hm
  obtain ⟨hj, h0, h1, h7, h8, hv0⟩ := hI
  by_cases hlt : j < vs.length
  · have htk : vs.take (j + 1) = vs.take j ++ [vs[j]] := by simp
    by_cases hv : v = vs[j]
    · have : vs[j] ∈ vs := List.getElem_mem hlt
      simp [nrm44_2, b44, loopOf, loopsOf, Try.f44, h0, h1, h7, h8, hlt, hv, this]
      exact ⟨j, rfl⟩
    · have hw := wrap1 hlt hlen
      have hv1 : v ∉ vs.take (j + 1) := by rw [htk, List.mem_append, List.mem_singleton]; exact fun h => h.elim hv0 hv
      have hv2 : (v == vs[j]) = false := by simp [hv]
      have hlt1 : j + 1 ≤ vs.length := hlt
      clear htk
      simp [nrm44_2, b44, loopOf, loopsOf, Try.f44, h0, h1, h7, h8, hlt, hv2, hw, hv1, hlt1]
  · have : vs.take j = vs := List.take_of_length_le (by omega)
    rw [this] at hv0
    simp [nrm44_2, b44, loopOf, loopsOf, Try.f44, h0, h1, h7, h8, hlt, hv0]
theorem index_ok {k : Nat} {vs : List Int} {fl : Bool} {v : Int} (hlen : vs.length ≤ maxLen) (hk : vs.length + 2 ≤ k) : ∃ z : Int, E k 44 [.sl fl (is vs), .i .i64 v] = some (.i .i64 z, []) ∧ (0 ≤ z ↔ v ∈ vs) := by
  obtain ⟨k, rfl⟩ : ∃ j, k = j + 1 := ⟨k - 1, by omega⟩
  rw [E_body (c := _) fns44 rfl rfl rfl]
  simp [Try.f44]
  generalize hq : runLoop _ _ _ _ _ _ _ = q
  obtain ⟨e, S', rfl, hQ⟩ := index_loop (k := k) (vs := vs) (fl := fl) (v := v) hlen _ 0 _ (by simp) (by omega) _ hq
  rcases hQ with ⟨h1, rfl, z, hz⟩ | ⟨h1, rfl⟩
  · exact ⟨z, by simp [hz], by simp [h1]⟩
  · exact ⟨-1, by simp, by simp [h1]⟩
theorem contains_ok {k : Nat} {vs : List Int} {fl : Bool} {v : Int} (hlen : vs.length ≤ maxLen) (hk : vs.length + 3 ≤ k) : E k 36 [.sl fl (is vs), .i .i64 v] = some (.b (decide (v ∈ vs)), []) := by
  obtain ⟨k, rfl⟩ : ∃ j, k = j + 1 := ⟨k - 1, by omega⟩
  rw [E_body (c := _) fns36 rfl rfl rfl]
  obtain ⟨z, h1, h2⟩ := index_ok (k := k) (fl := fl) (v := v) hlen (by omega)
  simp [Try.f36, h1, h2]
noncomputable def b21 : Code := loopOf Try.f21 0
theorem equal_loop {k : Nat} {us vs : List Int} {f1 f2 : Bool} (hlen : us.length ≤ maxLen) (hl : us.length = vs.length) (m j : Nat) (S : St) (hI : j ≤ us.length ∧ S.t 0 = .sl f1 (is us) ∧ S.t 1 = .sl f2 (is vs) ∧ S.t 12 = .i .i64 us.length ∧ S.t 13 = .i .i64 j ∧ us.take j = vs.take j) (hm : us.length < m + j) :
    ∀ q, iter (nrm 21 4) (evC T (E k) an (nrm 21) k b21) m S = q → ∃ e S', q = some (e, S') ∧ ((us ≠ vs ∧ e = .ret ∧ S'.t 4 = .b false) ∨ (us = vs ∧ e = .exit 0)) := by
  refine iter_rule (N := us.length) (fun j S => j ≤ us.length ∧ S.t 0 = .sl f1 (is us) ∧ S.t 1 = .sl f2 (is vs) ∧ S.t 12 = .i .i64 us.length ∧ S.t 13 = .i .i64 j ∧ us.take j = vs.take j) _ (fun j S h => h.1) (fun j S hI => ?_) m j S hI hm
  obtain ⟨hj, h0, h1, h7, h8, hv0⟩ := hI
  by_cases hlt : j < us.length
  · have hlt' : j < vs.length := by omega
    by_cases hv : us[j] = vs[j]
    · have hw := wrap1 hlt hlen
      have hv1 : us.take (j + 1) = vs.take (j + 1) := by rw [List.take_succ_eq_append_getElem hlt, List.take_succ_eq_append_getElem hlt', hv0, hv]
      have hv2 : (us[j] != vs[j]) = false := by simp [hv]
      have hlt1 : j + 1 ≤ us.length := hlt
      simp [nrm21_4, b21, loopOf, loopsOf, Try.f21, h0, h1, h7, h8, hlt, hlt', hv2, hw, hv1, hlt1]
    · have hv2 : (us[j] != vs[j]) = true := by simp [hv]
      have hne : us ≠ vs := fun e => hv (by subst e; rfl)
      simp [nrm21_4, b21, loopOf, loopsOf, Try.f21, h0, h1, h7, h8, hlt, hlt', hv2, hne]
  · have : us = vs := by
      rw [List.take_of_length_le (by omega), List.take_of_length_le (by omega)] at hv0
      exact hv0
    simp [nrm21_4, b21, loopOf, loopsOf, Try.f21, h0, h1, h7, h8, hlt]
    exact this
theorem equal_ok {k : Nat} {us vs : List Int} {f1 f2 : Bool} (hlen : us.length ≤ maxLen) (hk : us.length + 2 ≤ k) : E k 21 [.sl f1 (is us), .sl f2 (is vs)] = some (.b (decide (us = vs)), []) := by
  obtain ⟨k, rfl⟩ : ∃ j, k = j + 1 := ⟨k - 1, by omega⟩
  rw [E_body (c := _) fns21 rfl rfl rfl]
  by_cases hl : us.length = vs.length
  · simp [Try.f21, hl]
    generalize hq : runLoop _ _ _ _ _ _ _ = q
    obtain ⟨e, S', rfl, hQ⟩ := equal_loop (k := k) (us := us) (vs := vs) (f1 := f1) (f2 := f2) hlen hl _ 0 _ (by simp [hl]) (by omega) _ hq
    rcases hQ with ⟨h1, rfl, h2⟩ | ⟨h1, rfl⟩
    · simp [h2, h1]
    · simp [h1]
  · have hne : us ≠ vs := fun e => hl (by rw [e])
    have : ((us.length : Int) != (vs.length : Int)) = true := by simp; omega
    simp [Try.f21, this, hne]
def sameB (a b c d e f : Int) (us : List Int) (a' b' c' d' e' f' : Int) (vs : List Int) : Bool := a == a' && b == b' && c == c' && d == d' && e == e' && f == f' && decide (us = vs)
theorem same_ok {k : Nat} {a b c d e f a' b' c' d' e' f' : Int} {us vs : List Int} {f1 f2 : Bool} (hlen : us.length ≤ maxLen) (hk : us.length + 3 ≤ k) : E k 10 [bl a b c d e f (.sl f1 (is us)), bl a' b' c' d' e' f' (.sl f2 (is vs))] = some (.b (sameB a b c d e f us a' b' c' d' e' f' vs), []) := by
  obtain ⟨k, rfl⟩ : ∃ j, k = j + 1 := ⟨k - 1, by omega⟩
  rw [E_body (c := _) fns10 rfl rfl rfl]
  have heq := equal_ok (k := k) (us := us) (vs := vs) (f1 := f1) (f2 := f2) hlen (by omega)
  unfold sameB bl
  cases h1 : a == a'
  · simp [Try.f10, h1]
  cases h2 : b == b'
  · simp [Try.f10, h1, h2]
  cases h3 : c == c'
  · simp [Try.f10, h1, h2, h3]
  cases h4 : d == d'
  · simp [Try.f10, h1, h2, h3, h4]
  cases h5 : e == e'
  · simp [Try.f10, h1, h2, h3, h4, h5]
  cases h6 : f == f'
  · simp [Try.f10, h1, h2, h3, h4, h5, h6]
  simp [Try.f10, h1, h2, h3, h4, h5, h6, heq]
end Go.Proofs.Ytehjeifbgegabaa.EVT
