/- The law SeglogOpens: what the reference opens, the log opens; and both read the same. -/
import Derived.Test.YtbncnkchedhnpaaQE
set_option linter.unusedVariables false
set_option linter.unusedSimpArgs false
namespace Go.Proofs.Ytbncnkchedhnpaa.EVT
open Go Go.EV

theorem wf64 {n : Int} (h : (Lit.int .i64 n).wf = true) : -9223372036854775808 ≤ n ∧ n ≤ 9223372036854775807 := by
  simp [Lit.wf, IntKind.min, IntKind.max, IntKind.bits, IntKind.signed] at h
  omega
theorem lgR_len : ∀ (Ls : List (List RV)) (o : Int), lgOk o Ls → (lgR o Ls).length ≤ 6553 * Ls.length
  | [], o, _ => by simp [lgR]
  | L :: Ls, o, h => by
    obtain ⟨o0, o1, hk, hb, hL, hok'⟩ := lgOk_cons h
    have := lgR_len Ls _ hok'
    simp only [lgR, List.length_append, recL_len, List.length_cons]
    omega
theorem lRead_len (o : Int) (Ls : List (List RV)) (f n : Int) : (lRead o Ls f n).1.length ≤ (lgR o Ls).length := by
  unfold lRead
  split
  · simp
  · have := rdR_len f n (lgR o Ls) []
    simpa using this
theorem few_loop (a0 a2 : Int) (S : List Seg) (hS : S.length ≤ 1000) : ∀ (d j k : Nat), j + d = S.length → d < k →
    loopN st6_0 k ((a0, S, a2, (j : Int)), ()) = some (.inr true) ∨ loopN st6_0 k ((a0, S, a2, (j : Int)), ()) = some (.inl ((a0, S, a2), ())) := by
  intro d
  induction d with
  | zero =>
    intro j k hj hd
    cases k with
    | zero => omega
    | succ k =>
      refine .inr ?_
      rw [loopN_s]; generalize loopN st6_0 k = LL at *; dsimp only [st6_0]
      rw [cf (by (rw [Bool.eq_false_iff]; simp only [ne_eq, Bool.and_eq_true, Bool.or_eq_true, decide_eq_true_eq, beq_iff_eq, bne_iff_ne, Bool.not_eq_true', decide_eq_false_iff_not, and_true, true_and]; omega))]
  | succ d ih =>
    intro j k hj hd
    cases k with
    | zero => omega
    | succ k =>
      have ih' := ih (j + 1) k (by omega) (by omega)
      rw [loopN_s]; generalize loopN st6_0 k = LL at ih' ⊢; dsimp only [st6_0]
      rw [ct (by (simp only [ne_eq, Bool.and_eq_true, Bool.or_eq_true, decide_eq_true_eq, beq_iff_eq, bne_iff_ne, Bool.not_eq_true', decide_eq_false_iff_not, and_true, true_and]; omega)), ct (by (simp only [ne_eq, Bool.and_eq_true, Bool.or_eq_true, decide_eq_true_eq, beq_iff_eq, bne_iff_ne, Bool.not_eq_true', decide_eq_false_iff_not, and_true, true_and]; omega)), i64w (n := (j : Int) + 1) (by omega) (by omega)]
      by_cases hb : ((List.length (S.getD (Int.toNat j) (0, 0, [])).2.2 : Nat) : Int) > 2000
      · rw [ct (decide_eq_true hb), awake34]
        exact .inl rfl
      · rw [cf (decide_eq_false hb)]
        exact ih'
theorem law_opens (a0 : Int) (S : List Seg) (a2 : Int) (hb : ∀ x ∈ S, -9223372036854775808 ≤ x.2.1 ∧ x.2.1 ≤ 9223372036854775807) : g6 a0 S a2 = some true := by
  unfold g6
  by_cases hS : (S.length : Int) > 6
  · rw [ct (by (simp only [ne_eq, Bool.and_eq_true, Bool.or_eq_true, decide_eq_true_eq, beq_iff_eq, bne_iff_ne, Bool.not_eq_true', decide_eq_false_iff_not, and_true, true_and]; omega)), awake34]; rfl
  · rw [cf (by (rw [Bool.eq_false_iff]; simp only [ne_eq, Bool.and_eq_true, Bool.or_eq_true, decide_eq_true_eq, beq_iff_eq, bne_iff_ne, Bool.not_eq_true', decide_eq_false_iff_not, and_true, true_and]; omega))]
    have hl := few_loop a0 a2 S (by omega) S.length 0 fuel (by omega) (by rw [fuel_eq]; omega)
    have hl' : h6_0 ((a0, S, a2, 0), ()) = some (.inr true) ∨ h6_0 ((a0, S, a2, 0), ()) = some (.inl ((a0, S, a2), ())) := hl
    rcases hl' with h1 | h1
    · rw [h1]; rfl
    · rw [h1]
      simp only [Option.bind_some]
      rw [Open_eq a0 S (by omega) hb]
      simp only [Option.bind_some]
      rw [ref_Open_eq a0 S (by omega)]
      cases he : lOpen a0 S with
      | inl e =>
        simp only [Option.elim, Option.bind_some]
        have hne : e ≠ 0 := by
          intro h0; subst h0
          unfold lOpen at he
          split at he
          · cases he
          · split at he
            · cases he
            · split at he
              · rename_i e' heq
                cases he
                have : ∀ (d i : Nat) (c : Int), opn S d i c ≠ .inl 0 := by
                  intro d
                  induction d with
                  | zero => intro i c h; simp [opn] at h
                  | succ d ih =>
                    intro i c h
                    simp only [opn] at h
                    split at h
                    · rename_i hc
                      simp only [Sum.inl.injEq] at h
                      exact hc h
                    · split at h
                      · cases h
                      · exact ih _ _ h
                exact this _ _ _ heq
              · split at he <;> cases he
        rw [cf (by simp), cf (by simpa using hne), ct (by simpa using hne), awake34]
        rfl
      | inr S' =>
        obtain ⟨o, Ls, rfl, hn, hok, _, _⟩ := lOpen_ok he
        simp only [Option.elim, Option.bind_some]
        rw [cf (by simp), cf (by simp), cf (by simp)]
        have hSl : Ls.length ≤ 1000 := by
          unfold lOpen at he
          split at he
          · cases he
          · split at he
            · have h7 : lgS 0 [[]] = lgS o Ls := Sum.inr.inj he
              have := congrArg List.length h7
              rw [lgS_len, lgS_len] at this
              simp at this; omega
            · split at he
              · cases he
              · split at he
                · cases he
                · have h7 : S = lgS o Ls := Sum.inr.inj he
                  rw [h7, lgS_len] at hS; omega
        have hR := lgR_len Ls o hok
        rw [Read_log a0 o a2 20 hn hok (by omega) (by omega)]
        simp only [Option.bind_some]
        rw [ref_Read_lg a0 o a2 20 hn hok (by omega) (by omega)]
        simp only [Option.bind_some]
        rw [same_lg a0 a0 o hn hok (by omega)]
        simp only [Option.bind_some]
        have hrl := lRead_len o Ls a2 20
        rw [ct rfl, SameR_eq _ (by omega)]
        simp only [Option.bind_some]
        rw [ct rfl, ct (by simp), awake34]
        rfl
theorem SeglogOpens {a0 : Ty.den (.i .i64)} {a1 : Ty.den (.sl (.st (.pr (.i .i64) (.pr (.i .i64) (.sl .u8)))))} {a2 : Ty.den (.i .i64)} (h0 : Bd _ a0) (h1 : Bd _ a1) (h2 : Bd _ a2) : i6.G (a0, a1, a2) = some true :=
  law_opens a0 a1 a2 (fun x hx => wf64 (h1.2 x hx).2.1)
end Go.Proofs.Ytbncnkchedhnpaa.EVT
