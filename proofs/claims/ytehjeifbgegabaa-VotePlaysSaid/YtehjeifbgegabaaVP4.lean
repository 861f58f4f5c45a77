/- Chapter 40: counted votes; the law VoteKeeps. -/
import Derived.Test.YtehjeifbgegabaaVP3
import Derived.Test.YtehjeifbgegabaaUK
set_option linter.unusedVariables false
set_option linter.unusedSimpArgs false
set_option maxRecDepth 10000
namespace Go.Proofs.Ytehjeifbgegabaa.EVT
open Go Go.EV
/-! ### Count -/
def cnt (b : Bal) (kd fr tu te : Int) (ye : Bool) : Bal :=
  if kd ≠ 2 ∨ con b.1 b.2.1 fr tu te = false then b
  else
    let o := obs b te
    if te ≠ o.2.2.1 ∨ o.2.2.2.1 ≠ 1 ∨ ye = false then o
    else if quo (cntVs fr o.2.2.2.2.2.2).length o.2.1 then (o.1, o.2.1, o.2.2.1, 2, o.2.2.2.2.1, o.1, [])
    else (o.1, o.2.1, o.2.2.1, o.2.2.2.1, o.2.2.2.2.1, o.2.2.2.2.2.1, cntVs fr o.2.2.2.2.2.2)
/-- Seven marks. -/
def marks (f : Nat → Bool) : List Bool := (List.range 7).map f
theorem marks_len (f : Nat → Bool) : (marks f).length = 7 := by simp [marks]
theorem marks_set (f : Nat → Bool) {n : Nat} (h : n < 7) : (marks f).set n true = marks fun m => f m || m == n := by
  apply List.ext_getElem?
  intro i
  unfold marks
  rw [List.getElem?_set]
  by_cases hi : i < 7
  · by_cases e : n = i
    · subst e; simp [h]
    · have e' : (i == n) = false := by simp; exact fun h => e h.symm
      simp [e, hi, e']
  · by_cases e : n = i
    · subst e; omega
    · simp [e, hi]
theorem loop16_0 {b4 : Bal} {b5 : Bal} (vs : List Int) (hv : ∀ v ∈ vs, 0 ≤ v ∧ v < 7) (hl : vs.length ≤ 7) : ∀ (k j n : Nat) (f : Nat → Bool), k + j = vs.length → k < n →
    loopN st16_0 n ((vs, (vs.length : Int), (j : Int)), marks f, b5, b4) = some (.inl ((), marks (fun m => f m || (vs.drop j).any (fun v => m == v.toNat)), b5, b4))
  | 0, j, n + 1, f, hk, hn => by
    have : vs.drop j = [] := List.drop_eq_nil_of_le (by omega)
    simp [loopN, st16_0, this, show ¬ ((j : Int) < vs.length) by omega]
  | k + 1, j, n + 1, f, hk, hn => by
    have hj : j < vs.length := by omega
    obtain ⟨c1, c2, c3, c4, c5, c6, c7⟩ := b4
    obtain ⟨d1, d2, d3, d4, d5, d6, d7⟩ := b5
    simp only [loopN, st16_0]
    have e1 : IntKind.i64.wrap ((j : Int) + 1) = ((j + 1 : Nat) : Int) := wrap_in (by omega)
    have e2 : (j : Int).toNat = j := by simp
    have h1 : ((j : Int) < vs.length) := by omega
    have hvj := hv vs[j] (List.getElem_mem hj)
    have hm : vs[j].toNat < 7 := by omega
    rw [e1, e2, getD_at 0 hj, marks_len, marks_set f hm]
    simp only [h1, decide_true, Bool.and_true, show (0 : Int) ≤ j by omega, cond_true, hvj, hm, show vs[j] < ((7 : Nat) : Int) by omega, Bool.and_self]
    rw [loop16_0 vs hv hl k (j + 1) n _ (by omega) (by omega), List.drop_eq_getElem_cons hj]
    simp only [List.any_cons, Bool.or_assoc]
theorem selI_succ (f : Nat → Bool) (j : Nat) : selI f (j + 1) = selI f j ++ (if f j then [(j : Int)] else []) := by
  unfold selI
  rw [List.range_succ, List.filter_append, List.map_append]
  cases h : f j <;> simp [h]
theorem selI_le (f : Nat → Bool) : ∀ j, (selI f j).length ≤ j
  | 0 => by simp [selI]
  | j + 1 => by
    rw [selI_succ]
    have := selI_le f j
    cases f j <;> simp <;> omega
theorem loop16_1 {b4 : Bal} {r5 : Int × Int × Int × Int × Int × Int × Unit} (f : Nat → Bool) : ∀ (k j n : Nat), k + j = 7 → k < n → loopN st16_1 n ((marks f, (j : Int)), selI f j, r5, b4) = some (.inl ((), r5, b4, selI f 7))
  | 0, j, n + 1, hk, hn => by
    obtain rfl : j = 7 := by omega
    obtain ⟨c1, c2, c3, c4, c5, c6, c7⟩ := b4
    obtain ⟨d1, d2, d3, d4, d5, d6, ⟨⟩⟩ := r5
    simp [loopN, st16_1]
  | k + 1, j, n + 1, hk, hn => by
    obtain ⟨c1, c2, c3, c4, c5, c6, c7⟩ := b4
    obtain ⟨d1, d2, d3, d4, d5, d6, ⟨⟩⟩ := r5
    have ih := loop16_1 (b4 := (c1, c2, c3, c4, c5, c6, c7)) (r5 := (d1, d2, d3, d4, d5, d6, ())) f k (j + 1) n (by omega) (by omega)
    have hj : j < 7 := by omega
    simp only [loopN, st16_1]
    have e1 : IntKind.i64.wrap ((j : Int) + 1) = ((j + 1 : Nat) : Int) := wrap_in (by omega)
    have e2 : (j : Int).toNat = j := by simp
    have e3 : (marks f).getD j false = f j := by simp [marks, List.getD_eq_getElem?_getD, hj]
    have e4 := selI_le f j
    have e5 : (selI f j).length + 1 ≤ 2147483647 := by omega
    rw [e1, e2, e3, marks_len]
    simp only [show ((j : Int) < 7) by omega, show (0 : Int) ≤ j by omega, show ((j : Int) < ((7 : Nat) : Int)) by omega, decide_true, Bool.and_self, cond_true, e5]
    rw [selI_succ] at ih
    cases hf : f j
    · rw [hf] at ih
      simpa using ih
    · rw [hf] at ih
      simpa using ih
theorem g16_eq {b : Bal} (kd fr tu te lix lpr cm : Int) (ye : Bool) (es : List (Int × List UInt8)) (h : okB b) : g16 b.1 b.2.1 b.2.2.1 b.2.2.2.1 b.2.2.2.2.1 b.2.2.2.2.2.1 b.2.2.2.2.2.2 kd fr tu te lix lpr cm ye es = some (cnt b kd fr tu te ye) := by
  have hl := okB_len h
  unfold g16 cnt
  rw [g24_eq hl, g27_eq, g15_eq te hl]
  simp only [Option.bind_some]
  by_cases c1 : kd = 2
  · subst c1
    cases c2 : con b.1 b.2.1 fr tu te
    · simp
    · obtain ⟨_, _, f1, f2, _, _⟩ := con_iff.1 c2
      have hk := obs_keeps h te
      have ho := hk.1
      have hns := hk.2.2.1
      obtain ⟨n1, _, _, _, n5, _⟩ := chk_iff.1 ho
      have hol := okB_len ho
      have hb7 : b.2.1 ≤ 7 := by rw [← hns]; unfold okN at n1; omega
      have hvs := (vchk_of n5).1
      show (bif (2 : Int) != 2 then _ else bif !true then _ else _) = _
      simp only [bne_self_eq_false, cond_false, Bool.not_true, ne_eq, not_true_eq_false, false_or, Bool.true_eq_false, if_false]
      generalize hoo : obs b te = o at *
      by_cases d1 : te = o.2.2.1
      · by_cases d2 : o.2.2.2.1 = 1
        · cases ye
          · have : (te != o.2.2.1) = false := by simpa using d1
            simp [d2]
          · have e1 : (te != o.2.2.1) = false := by simpa using d1
            have e2 : (o.2.2.2.1 != 1) = false := by simpa using d2
            have e3 : fr.toNat < 7 := by omega
            have e4 : [false, false, false, false, false, false, false].set fr.toNat true = marks fun m => m == fr.toNat := by
              have := marks_set (fun _ => false) e3
              simpa [marks, List.range, List.range.loop] using this
            have v7 : ∀ v ∈ o.2.2.2.2.2.2, 0 ≤ v ∧ v < 7 := fun v hv => by
              have := hvs v hv
              unfold okN at n1
              omega
            have l0 := loop16_0 (b4 := (0, 0, 0, 0, 0, 0, [])) (b5 := o) o.2.2.2.2.2.2 v7 hol o.2.2.2.2.2.2.length 0 fuel (fun m => m == fr.toNat) (by omega) (by rw [fuel_eq]; omega)
            have l0' : h16_0 ((o.2.2.2.2.2.2, (↑(List.length o.2.2.2.2.2.2) : Int), 0), marks (fun m => m == fr.toNat), o, 0, 0, 0, 0, 0, 0, []) = _ := l0
            have em : (fun m => (m == fr.toNat) || (o.2.2.2.2.2.2.drop 0).any fun v => m == v.toNat) = markF fr o.2.2.2.2.2.2 := by
              funext m
              simp only [List.drop_zero, markF]
              rw [Bool.or_comm]
            rw [em] at l0'
            have l1 := loop16_1 (b4 := (0, 0, 0, 0, 0, 0, [])) (r5 := (o.1, o.2.1, o.2.2.1, o.2.2.2.1, o.2.2.2.2.1, o.2.2.2.2.2.1, ())) (markF fr o.2.2.2.2.2.2) 7 0 fuel (by omega) (by rw [fuel_eq]; omega)
            have l1' : h16_1 ((marks (markF fr o.2.2.2.2.2.2), 0), [], (o.1, o.2.1, o.2.2.1, o.2.2.2.1, o.2.2.2.2.1, o.2.2.2.2.2.1, ()), 0, 0, 0, 0, 0, 0, []) = _ := l1
            rw [e1, e2, e4]
            simp only [cond_false, Bool.not_true, show (0 ≤ fr) by omega, show (fr < ((7 : Nat) : Int)) by omega, show (fr < 7) by omega, decide_true, Bool.and_self, cond_true, e3]
            rw [l0']
            simp only [Option.bind_some, marks_len]
            show (bif (true == true && true && (1 * 7 == 7) && true) then _ else _) = _
            simp only [beq_self_eq_true, Nat.one_mul, Bool.and_self, cond_true]
            rw [l1']
            simp only [Option.bind_some]
            rw [g28_eq _ _ (by unfold okN at n1; omega)]
            simp only [Option.bind_some, g26_eq]
            rw [if_neg (by simp [← d1, d2])]
            cases hq : quo (selI (markF fr o.2.2.2.2.2.2) 7).length o.2.1
            · rw [if_neg (by unfold cntVs; simp [hq])]; rfl
            · rw [if_pos (by unfold cntVs; exact hq)]; rfl
        · have e1 : (te != o.2.2.1) = false := by simpa using d1
          have e2 : (o.2.2.2.1 != 1) = true := by simpa using d2
          simp [e1, e2, d2]
      · have : (te != o.2.2.1) = true := by simpa using d1
        simp [this, d1]
  · have : (kd != 2) = true := by simpa using c1
    simp [c1, this]
end Go.Proofs.Ytehjeifbgegabaa.EVT
