/- The letters of a campaign, whole; quorums. -/
import Derived.Test.YtehjeifbgegabaaVP4
set_option linter.unusedVariables false
set_option linter.unusedSimpArgs false
namespace Go.Proofs.Ytehjeifbgegabaa.EVT
open Go Go.EV

def askL (nd tm ix pr : Int) : Nat → Nat → List Let
  | 0, _ => []
  | k + 1, j => if (j : Int) = nd then askL nd tm ix pr k (j + 1) else ((1, nd, (j : Int), tm, ix, pr, 0, false, []) : Let) :: askL nd tm ix pr k (j + 1)
theorem askL_len (nd tm ix pr : Int) : ∀ k j, (askL nd tm ix pr k j).length ≤ k
  | 0, _ => by simp [askL]
  | k + 1, j => by
    simp only [askL]
    have := askL_len nd tm ix pr k (j + 1)
    split
    · omega
    · simp; omega
theorem askL_mem (nd tm ix pr : Int) : ∀ k j, ∀ x ∈ askL nd tm ix pr k j, x.1 = 1 ∧ (j : Int) ≤ x.2.2.1 ∧ x.2.2.1 < (j : Int) + (k : Int)
  | 0, _, x, h => by simp [askL] at h
  | k + 1, j, x, h => by
    simp only [askL] at h
    split at h
    · have := askL_mem nd tm ix pr k (j + 1) x h
      omega
    · rcases List.mem_cons.1 h with rfl | h
      · simp; omega
      · have := askL_mem nd tm ix pr k (j + 1) x h
        omega
theorem loop13L {ix pr ns : Int} (hns : 1 ≤ ns ∧ ns ≤ 7) {r8 : Int × Int × Int × Int × Int × Int × Unit} {r6 : Bal} {nd a1 a2 a3 a4 a5 : Int} {vs r31 : List Int} : ∀ (k j n : Nat) (l : List Let), (k : Int) + j = ns → k < n → l.length ≤ j →
    loopN st13_0 n ((ix, pr, ns, (j : Int)), l, r8, r6, (nd, a1, a2, a3, a4, a5, vs), r31) = some (.inl ((), l ++ askL nd r8.2.2.1 ix pr k j, r8, r6, r31))
  | 0, j, n + 1, l, hk, hn, hl => by simp [loopN, st13_0, show ¬ ((j : Int) < ns) by omega, askL]
  | k + 1, j, n + 1, l, hk, hn, hl => by
    have e1 : IntKind.i64.wrap ((j : Int) + 1) = ((j + 1 : Nat) : Int) := wrap_in (by omega)
    obtain ⟨b1, b2, b3, b4, b5, b6, ⟨⟩⟩ := r8
    obtain ⟨c1, c2, c3, c4, c5, c6, c7⟩ := r6
    have h1 : (j : Int) < ns := by omega
    simp only [loopN, st13_0, e1]
    by_cases hj : (j : Int) = nd
    · have h := loop13L hns (r8 := (b1, b2, b3, b4, b5, b6, ())) (r6 := (c1, c2, c3, c4, c5, c6, c7)) (nd := nd) (a1 := a1) (a2 := a2) (a3 := a3) (a4 := a4) (a5 := a5) (vs := vs) (r31 := r31) (ix := ix) (pr := pr) k (j + 1) n l (by omega) (by omega) (by omega)
      have hj' : ((j : Int) != nd) = false := by simpa using hj
      simp only [h1, decide_true, cond_true, hj', cond_false]
      rw [h]
      simp [askL, hj]
    · have h := loop13L hns (r8 := (b1, b2, b3, b4, b5, b6, ())) (r6 := (c1, c2, c3, c4, c5, c6, c7)) (nd := nd) (a1 := a1) (a2 := a2) (a3 := a3) (a4 := a4) (a5 := a5) (vs := vs) (r31 := r31) (ix := ix) (pr := pr) k (j + 1) n (l ++ [(1, nd, (j : Int), b3, ix, pr, 0, false, [])]) (by omega) (by omega) (by simp; omega)
      have h2 : l.length + 1 ≤ 2147483647 := by omega
      have hj' : ((j : Int) != nd) = true := by simpa using hj
      simp only [h1, decide_true, cond_true, hj', h2]
      rw [h]
      simp [askL, hj]
def campL (b : Bal) (ix pr : Int) : List Let := if b.2.2.1 ≥ Max then [] else if b.2.1 = 1 then [] else askL b.1 (b.2.2.1 + 1) ix pr b.2.1.toNat 0
theorem g13_eqL {nd ns tm rl vd ld : Int} {vs : List Int} (ix pr : Int) (h : okB (nd, ns, tm, rl, vd, ld, vs)) : g13 nd ns tm rl vd ld vs ix pr = some (camp (nd, ns, tm, rl, vd, ld, vs), campL (nd, ns, tm, rl, vd, ld, vs) ix pr) := by
  have hl := okB_len h
  obtain ⟨h1, h2, _⟩ := chk_iff.1 h
  simp only [okN] at h1 h2
  unfold g13 camp campL Max
  simp only [g24_eq (show vs.length ≤ 7 from hl), g25_eq, g26_eq, Option.bind_some]
  have e1 : IntKind.i64.wrap (tm + 1) = tm + 1 := wrap_in (by omega)
  by_cases c1 : tm ≥ 1099511627776
  · simp [c1]
  · by_cases c2 : ns = 1
    · simp [c1, c2, e1]
    · have hh := loop13L (ix := ix) (pr := pr) (ns := ns) (by omega) (r8 := (nd, ns, tm + 1, 1, nd, -1, ())) (r6 := (0, 0, 0, 0, 0, 0, [])) (nd := nd) (a1 := ns) (a2 := tm) (a3 := rl) (a4 := vd) (a5 := ld) (vs := vs) (r31 := [nd]) ns.toNat 0 fuel [] (by omega) (by rw [fuel_eq]; omega) (by simp)
      have hh' : h13_0 ((ix, pr, ns, 0), [], (nd, ns, tm + 1, 1, nd, -1, ()), (0, 0, 0, 0, 0, 0, []), (nd, ns, tm, rl, vd, ld, vs), [nd]) = _ := hh
      have c2' : (ns == 1) = false := by simpa using c2
      rw [e1, hh']
      simp [c1, c2, c2']
/-! ### quorums -/
def cntf (f : Nat → Bool) : Nat := ((List.range 7).filter f).length
structure Quor (N : Nat) (Q : Nat → Bool) : Prop where
  lt : ∀ n, Q n = true → n < N
  big : N < 2 * cntf Q
theorem filt_two (f g h : Nat → Bool) : ∀ l : List Nat, (∀ n, ¬ (f n = true ∧ g n = true)) → (∀ n, f n = true → h n = true) → (∀ n, g n = true → h n = true) → (l.filter f).length + (l.filter g).length ≤ (l.filter h).length
  | [], _, _, _ => by simp
  | x :: l, h0, h1, h2 => by
    have ih := filt_two f g h l h0 h1 h2
    simp only [List.filter_cons]
    cases hf : f x with
    | true =>
      have hg : g x = false := by
        cases hg : g x with
        | false => rfl
        | true => exact absurd ⟨hf, hg⟩ (h0 x)
      rw [h1 x hf, hg]
      simp only [if_true, Bool.false_eq_true, if_false, List.length_cons]; omega
    | false =>
      cases hg : g x with
      | true =>
        rw [h2 x hg]
        simp only [if_true, Bool.false_eq_true, if_false, List.length_cons]; omega
      | false =>
        simp only [Bool.false_eq_true, if_false]
        split
        · simp only [List.length_cons]; omega
        · exact ih
theorem cntf_lt {N : Nat} (hN : N ≤ 7) : cntf (fun n => decide (n < N)) = N := by
  have : N = 0 ∨ N = 1 ∨ N = 2 ∨ N = 3 ∨ N = 4 ∨ N = 5 ∨ N = 6 ∨ N = 7 := by omega
  rcases this with rfl | rfl | rfl | rfl | rfl | rfl | rfl | rfl <;> decide
theorem quor_meet {N : Nat} (hN : N ≤ 7) {Q R : Nat → Bool} (hq : Quor N Q) (hr : Quor N R) : ∃ n, Q n = true ∧ R n = true := by
  by_cases h : ∃ n, Q n = true ∧ R n = true
  · exact h
  · exfalso
    have := filt_two Q R (fun n => decide (n < N)) (List.range 7) (fun n hn => h ⟨n, hn⟩) (fun n hn => by simpa using hq.lt n hn) (fun n hn => by simpa using hr.lt n hn)
    have e := cntf_lt hN
    have h1 := hq.big
    have h2 := hr.big
    unfold cntf at e h1 h2
    omega
theorem quor_one {m : Nat} (h : m = 0) : Quor 1 (fun n => n == m) := by
  subst h
  exact ⟨fun n hn => by simp at hn; omega, by decide⟩
end Go.Proofs.Ytehjeifbgegabaa.EVT
