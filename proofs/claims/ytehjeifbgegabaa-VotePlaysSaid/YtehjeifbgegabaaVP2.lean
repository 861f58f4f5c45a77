/- Chapter 40: the printed checks answer as told. -/
import Derived.Test.YtehjeifbgegabaaVP1
import Derived.Test.YtehjeifbgegabaaUA
set_option linter.unusedVariables false
set_option linter.unusedSimpArgs false
namespace Go.Proofs.Ytehjeifbgegabaa.EVT
open Go Go.EV
theorem wrap_in {n : Int} (h : -9223372036854775808 ≤ n ∧ n ≤ 9223372036854775807) : IntKind.i64.wrap n = n := IntWalk.i64_in _ h
theorem fuel_big {n : Nat} (h : n ≤ maxLen) : n < fuel := by
  unfold maxLen at h; rw [fuel_eq]; omega
theorem g20_eq (a b c : Int) : g20 a b c = some (decide (b ≤ a) && decide (a ≤ c)) := by
  unfold g20; by_cases h : b ≤ a <;> simp [h]
theorem g28_eq (a b : Int) (hb : b ≤ 9223372036854775807) : g28 a b = some (quo a b) := by
  unfold g28 quo
  by_cases h1 : b ≥ 1
  · have h2 : b.tdiv 2 = b / 2 := Int.tdiv_eq_ediv_of_nonneg (by omega)
    simp [h1, h2, wrap_in (n := b / 2) (by omega)]
  · simp [h1]
theorem g37_eq (a b : Int) (hb : b ≤ 9223372036854775807) : g37 a b = some (quo a b) := g28_eq a b hb
theorem getD_at {α : Type} {l : List α} {j : Nat} (d : α) (h : j < l.length) : l.getD j d = l[j] := by simp [List.getD_eq_getElem?_getD, h]
theorem loop44 (vs : List Int) (x : Int) (hl : vs.length ≤ maxLen) : ∀ (k j n : Nat), k + j = vs.length → k < n → ∃ o, loopN st44_0 n ((vs, x, (vs.length : Int), (j : Int)), ()) = some o ∧ (x ∈ vs.drop j → ∃ i : Nat, o = .inr (i : Int)) ∧ (x ∉ vs.drop j → o = .inl ((), ()))
  | 0, j, n + 1, hk, hn => by
    have : vs.drop j = [] := List.drop_eq_nil_of_le (by omega)
    exact ⟨.inl ((), ()), by simp [loopN, st44_0, show ¬ ((j : Int) < vs.length) by omega], by simp [this], fun _ => rfl⟩
  | k + 1, j, n + 1, hk, hn => by
    have hj : j < vs.length := by omega
    have hm : maxLen = 9223372036854775807 := rfl
    have e1 : IntKind.i64.wrap ((j : Int) + 1) = ((j + 1 : Nat) : Int) := wrap_in (by omega)
    have e2 : (j : Int).toNat = j := by simp
    have h1 : ((j : Int) < vs.length) := by omega
    obtain ⟨o, i1, i2, i3⟩ := loop44 vs x hl k (j + 1) n (by omega) (by omega)
    by_cases hx : x = vs[j]
    · exact ⟨.inr (j : Int), by simp [loopN, st44_0, e2, h1, hj, hx], fun _ => ⟨j, rfl⟩, fun h => (h (by rw [List.drop_eq_getElem_cons hj, ← hx]; exact List.mem_cons_self)).elim⟩
    · refine ⟨o, ?_, fun h => i2 ?_, fun h => i3 ?_⟩
      · have hx' : (x == vs[j]) = false := by simpa using hx
        simp only [loopN, st44_0]
        rw [e1, e2, getD_at 0 hj, hx', i1]
        simp [h1]
      · rw [List.drop_eq_getElem_cons hj] at h
        exact (List.mem_cons.1 h).resolve_left hx
      · rw [List.drop_eq_getElem_cons hj] at h
        exact fun h' => h (List.mem_cons_of_mem _ h')
theorem g44_eq (vs : List Int) (x : Int) (hl : vs.length ≤ maxLen) : ∃ i, g44 vs x = some i ∧ (x ∈ vs → 0 ≤ i) ∧ (x ∉ vs → i = -1) := by
  unfold g44 h44_0
  obtain ⟨o, h1, h2, h3⟩ := loop44 vs x hl vs.length 0 fuel (by omega) (fuel_big hl)
  simp only [List.drop_zero] at h2 h3
  have h1' : loopN st44_0 fuel ((vs, x, (vs.length : Int), 0), ()) = some o := h1
  rw [h1']
  by_cases h : x ∈ vs
  · obtain ⟨i, rfl⟩ := h2 h
    exact ⟨i, rfl, fun _ => by omega, fun hh => (hh h).elim⟩
  · rw [h3 h]
    exact ⟨-1, rfl, fun hh => (h hh).elim, fun _ => rfl⟩
theorem g36_eq (vs : List Int) (x : Int) (hl : vs.length ≤ maxLen) : g36 vs x = some (decide (x ∈ vs)) := by
  unfold g36
  obtain ⟨i, h1, h2, h3⟩ := g44_eq vs x hl
  rw [h1]
  by_cases h : x ∈ vs
  · have := h2 h; simp [h, this]
  · have := h3 h; simp [h, this]
theorem g23_eq {nd ns tm rl vd ld : Int} {vs : List Int} (hns : ns ≤ 9223372036854775807) (hlen : vs.length ≤ maxLen) (hrl : rl = 0 ∨ rl = 1 ∨ rl = 2) : g23 nd ns tm rl vd ld vs = some (cons nd ns tm rl vd ld vs) := by
  unfold g23 cons
  rw [g36_eq vs nd hlen, g37_eq _ _ hns]
  rcases hrl with rfl | rfl | rfl
  · cases h1 : (tm == 0) <;> cases h3 : (vd != -1) <;> cases h4 : (ld != -1) <;> cases h6 : ((vs.length : Int) == 0) <;> simp_all
  · cases h1 : (tm == 0) <;> cases h6 : (vd == nd) <;> cases h7 : (ld == -1) <;> cases h8 : decide (nd ∈ vs) <;> simp_all
  · cases h1 : (tm == 0) <;> cases h6 : (vd == nd) <;> cases h7 : (ld == nd) <;> simp_all
theorem loop12 {nd ns tm rl vd ld : Int} (vs : List Int) (hns : 1 ≤ ns ∧ ns ≤ 7) (hl : vs.length ≤ maxLen) : ∀ (k j n : Nat), k + j = vs.length → k < n →
    loopN st12_0 n ((vs, (vs.length : Int), (j : Int)), nd, ns, tm, rl, vd, ld, vs) = some (if vchk ns (pv vs j) (vs.drop j) = 0 then .inl ((), nd, ns, tm, rl, vd, ld, vs) else .inr (vchk ns (pv vs j) (vs.drop j)))
  | 0, j, n + 1, hk, hn => by
    have : vs.drop j = [] := List.drop_eq_nil_of_le (by omega)
    simp [loopN, st12_0, this, vchk, show ¬ ((j : Int) < vs.length) by omega]
  | k + 1, j, n + 1, hk, hn => by
    have hj : j < vs.length := by omega
    rw [List.drop_eq_getElem_cons hj]
    simp only [loopN, st12_0]
    have hm : maxLen = 9223372036854775807 := rfl
    have e1 : IntKind.i64.wrap ((j : Int) + 1) = ((j + 1 : Nat) : Int) := wrap_in (by omega)
    have e2 : (j : Int).toNat = j := by simp
    have e3 : IntKind.i64.wrap (ns - 1) = ns - 1 := wrap_in (by omega)
    rw [e1, e2, e3, getD_at 0 hj, g20_eq]
    have h1 : ((j : Int) < vs.length) := by omega
    simp only [h1, decide_true, Bool.and_true, show (0 : Int) ≤ j by omega, cond_true, Option.bind_some]
    rw [loop12 vs hns hl k (j + 1) n (by omega) (by omega), vchk]
    by_cases hb1 : vs[j] < 0 ∨ vs[j] ≥ ns
    · rw [if_pos hb1]
      have : (decide (0 ≤ vs[j]) && decide (vs[j] ≤ ns - 1)) = false := by simp; omega
      rw [this]; simp
    · rw [if_neg hb1]
      have : (decide (0 ≤ vs[j]) && decide (vs[j] ≤ ns - 1)) = true := by simp; omega
      rw [this]
      simp only [Bool.not_true, cond_false]
      cases j with
      | zero => simp [pv, leP, hj]
      | succ i =>
        have hi : i < vs.length := by omega
        have e4 : IntKind.i64.wrap (((i + 1 : Nat) : Int) - 1) = (i : Int) := by rw [show ((i + 1 : Nat) : Int) - 1 = i by omega]; exact wrap_in (by omega)
        rw [e4]
        simp only [Int.toNat_natCast, getD_at 0 hi, show (((i + 1 : Nat) : Int) > 0) by omega, decide_true, cond_true, show (0 : Int) ≤ i by omega, show ((i : Int) < vs.length) by omega, Bool.and_true]
        have hpv : pv vs (i + 1) = some vs[i] := by simp [pv, hi]
        have hpv2 : pv vs (i + 1 + 1) = some vs[i + 1] := by simp [pv, hj]
        rw [hpv, leP, hpv2]
        by_cases hb3 : vs[i + 1] ≤ vs[i] <;> simp [hb3]
theorem g12_eq {nd ns tm rl vd ld : Int} {vs : List Int} (hb : -9223372036854775808 ≤ ns ∧ ns ≤ 9223372036854775807) (hlen : vs.length ≤ maxLen) : g12 nd ns tm rl vd ld vs = some (chk nd ns tm rl vd ld vs) := by
  unfold g12
  simp only [g20_eq, Option.bind_some]
  by_cases h1 : 1 ≤ ns ∧ ns ≤ 7
  · have e3 : IntKind.i64.wrap (ns - 1) = ns - 1 := wrap_in (by omega)
    rw [e3]
    have t1 : (decide (1 ≤ ns) && decide (ns ≤ 7)) = true := by simp; omega
    rw [t1]
    simp only [Bool.not_true, cond_false]
    by_cases h2 : 0 ≤ nd ∧ nd ≤ ns - 1
    · have t2 : (decide (0 ≤ nd) && decide (nd ≤ ns - 1)) = true := by simp; omega
      rw [t2]
      have hN : okN nd ns := by unfold okN; omega
      simp only [Bool.not_true, cond_false]
      by_cases h3 : 0 ≤ tm ∧ tm ≤ 1099511627776
      · have t3 : (decide (0 ≤ tm) && decide (tm ≤ 1099511627776)) = true := by simp; omega
        rw [t3]
        simp only [Bool.not_true, cond_false]
        by_cases h4 : 0 ≤ rl ∧ rl ≤ 2
        · have t4 : (decide (0 ≤ rl) && decide (rl ≤ 2)) = true := by simp; omega
          rw [t4]
          simp only [Bool.not_true, cond_false]
          by_cases h5 : -1 ≤ vd ∧ vd ≤ ns - 1
          · have t5 : (decide (-1 ≤ vd) && decide (vd ≤ ns - 1)) = true := by simp; omega
            rw [t5]
            simp only [Bool.not_true, cond_false]
            by_cases h6 : -1 ≤ ld ∧ ld ≤ ns - 1
            · have t6 : (decide (-1 ≤ ld) && decide (ld ≤ ns - 1)) = true := by simp; omega
              rw [t6]
              simp only [Bool.not_true, cond_false]
              have hl := loop12 (nd := nd) (tm := tm) (rl := rl) (vd := vd) (ld := ld) vs h1 hlen vs.length 0 fuel (by omega) (fuel_big hlen)
              rw [show ((0 : Nat) : Int) = 0 from rfl] at hl
              unfold h12_0
              rw [hl]
              simp only [List.drop_zero, pv]
              unfold chk
              by_cases h7 : vchk ns none vs = 0
              · rw [if_pos h7, if_neg (by simpa using hN), if_neg (by omega), if_neg (by omega), if_neg (by omega), if_neg (by simpa using h7)]
                simp only [g23_eq (nd := nd) (ns := ns) (tm := tm) (rl := rl) (vd := vd) (ld := ld) (vs := vs) hb.2 hlen (by omega), Option.bind_some]
                cases cons nd ns tm rl vd ld vs <;> simp
              · rw [if_neg h7, if_neg (by simpa using hN), if_neg (by omega), if_neg (by omega), if_neg (by omega), if_pos h7]
                rfl
            · have t6 : (decide (-1 ≤ ld) && decide (ld ≤ ns - 1)) = false := by simp; omega
              rw [t6]
              unfold chk
              rw [if_neg (by simpa using hN), if_neg (by omega), if_neg (by omega), if_pos (by omega)]
              rfl
          · have t5 : (decide (-1 ≤ vd) && decide (vd ≤ ns - 1)) = false := by simp; omega
            rw [t5]
            unfold chk
            rw [if_neg (by simpa using hN), if_neg (by omega), if_neg (by omega), if_pos (by omega)]
            rfl
        · have t4 : (decide (0 ≤ rl) && decide (rl ≤ 2)) = false := by simp; omega
          rw [t4]
          unfold chk
          rw [if_neg (by simpa using hN), if_neg (by omega), if_pos (by omega)]
          rfl
      · have t3 : (decide (0 ≤ tm) && decide (tm ≤ 1099511627776)) = false := by simp; omega
        rw [t3]
        unfold chk
        rw [if_neg (by simpa using hN), if_pos (by omega)]
        rfl
    · have t2 : (decide (0 ≤ nd) && decide (nd ≤ ns - 1)) = false := by simp; omega
      rw [t2]
      unfold chk
      rw [if_pos (by unfold okN; omega)]
      rfl
  · have t1 : (decide (1 ≤ ns) && decide (ns ≤ 7)) = false := by simp; omega
    rw [t1]
    unfold chk
    rw [if_pos (by unfold okN; omega)]
    rfl
end Go.Proofs.Ytehjeifbgegabaa.EVT
