/- The law VotePlays: both compute the same. -/
import Derived.Test.YtehjeifbgegabaaVQ2
set_option linter.unusedVariables false
set_option linter.unusedSimpArgs false
namespace Go.Proofs.Ytehjeifbgegabaa.EVT
open Go Go.EV
theorem campL_len {b : Bal} (h : okB b) (ix pr : Int) : (campL b ix pr).length ≤ 7 := by
  obtain ⟨h1, _⟩ := chk_iff.1 h
  unfold okN at h1
  unfold campL
  split
  · simp
  · split
    · simp
    · have := askL_len b.1 (b.2.2.1 + 1) ix pr b.2.1.toNat 0
      omega
theorem askL_es (nd tm ix pr : Int) : ∀ k j, ∀ x ∈ askL nd tm ix pr k j, x.2.2.2.2.2.2.2.2 = []
  | 0, _, x, h => by simp [askL] at h
  | k + 1, j, x, h => by
    simp only [askL] at h
    split at h
    · exact askL_es nd tm ix pr k (j + 1) x h
    · rcases List.mem_cons.1 h with rfl | h
      · rfl
      · exact askL_es nd tm ix pr k (j + 1) x h
theorem campL_es {b : Bal} (ix pr : Int) : ∀ x ∈ campL b ix pr, x.2.2.2.2.2.2.2.2 = [] := by
  unfold campL
  intro x hx
  split at hx
  · simp at hx
  · split at hx
    · simp at hx
    · exact askL_es _ _ _ _ _ _ x hx
abbrev Opn := Int × Int × Int × Int × Let
/-- One call. -/
theorem step_ok {nd ns tm rl vd ld : Int} {vs : List Int} (h : okB (nd, ns, tm, rl, vd, ld, vs)) (ki ix pr t : Int) (l : Let) :
    ∃ b' ls, g19 nd ns tm rl vd ld vs ki ix pr t l.1 l.2.1 l.2.2.1 l.2.2.2.1 l.2.2.2.2.1 l.2.2.2.2.2.1 l.2.2.2.2.2.2.1 l.2.2.2.2.2.2.2.1 l.2.2.2.2.2.2.2.2 = some (b', ls, true) ∧ okB b' := by
  have hl : vs.length ≤ 7 := okB_len h
  obtain ⟨n1, _⟩ := chk_iff.1 h
  have hn : okN nd ns := n1
  unfold g19
  by_cases c0 : ki = 0
  · rw [ct (by simpa using c0), g13_eqL ix pr h, g30_eq ix pr h]
    simp only [Option.bind_some]
    have hk := (camp_keeps h).1
    rw [g10_self _ (okB_len hk)]
    simp only [Option.bind_some, cond_true]
    rw [g31_self _ (by have := campL_len h ix pr; omega) (fun x hx => by rw [campL_es ix pr x hx]; simp)]
    exact ⟨_, _, rfl, hk⟩
  · rw [cf (by simpa using c0)]
    by_cases c1 : ki = 1
    · rw [ct (by simpa using c1), g32_eq t hl, g15_eq t hl]
      simp only [Option.bind_some]
      have hk := (obs_keeps h t).1
      rw [g10_self _ (okB_len hk)]
      exact ⟨_, _, rfl, hk⟩
    · rw [cf (by simpa using c1)]
      by_cases c2 : ki = 2
      · rw [ct (by simpa using c2), g14_eq _ _ _ _ _ _ _ _ _ ix pr hl, g33_eq hn _ _ _ _ _ _ _ _ _ ix pr hl]
        simp only [Option.bind_some]
        have hk := (ans_keeps h l.1 l.2.1 l.2.2.1 l.2.2.2.1 l.2.2.2.2.1 l.2.2.2.2.2.1 ix pr).1.1
        rw [g10_self _ (okB_len hk)]
        simp only [Option.bind_some, cond_true]
        have he : (ans (nd, ns, tm, rl, vd, ld, vs) l.1 l.2.1 l.2.2.1 l.2.2.2.1 l.2.2.2.2.1 l.2.2.2.2.2.1 ix pr).2.2.2.2.2.2.2.2.2 = [] := by
          unfold ans
          split
          · rfl
          · simp only
            split <;> rfl
        rw [g34_self _ (by rw [he]; simp)]
        exact ⟨_, _, rfl, hk⟩
      · rw [cf (by simpa using c2), g35_eq _ _ _ _ _ _ _ _ _ h]
        have hg := g16_eq (b := (nd, ns, tm, rl, vd, ld, vs)) l.1 l.2.1 l.2.2.1 l.2.2.2.1 l.2.2.2.2.1 l.2.2.2.2.2.1 l.2.2.2.2.2.2.1 l.2.2.2.2.2.2.2.1 l.2.2.2.2.2.2.2.2 h
        rw [show g16 nd ns tm rl vd ld vs l.1 l.2.1 l.2.2.1 l.2.2.2.1 l.2.2.2.2.1 l.2.2.2.2.2.1 l.2.2.2.2.2.2.1 l.2.2.2.2.2.2.2.1 l.2.2.2.2.2.2.2.2 = _ from hg]
        simp only [Option.bind_some]
        have hk := (cnt_keeps h l.1 l.2.1 l.2.2.1 l.2.2.2.1 l.2.2.2.2.2.2.2.1).1
        rw [g10_self _ (okB_len hk)]
        exact ⟨_, _, rfl, hk⟩
theorem loop6 (A : List (Int × Int × Int × Int × Let)) (hA : A.length ≤ 60) : ∀ (d j k : Nat) (b : Bal), okB b → j + d = A.length → d < k →
    loopN st6_0 k ((A, (A.length : Int), (j : Int)), b) = some (.inl ((), ())) ∨ loopN st6_0 k ((A, (A.length : Int), (j : Int)), b) = some (.inr true) := by
  intro d
  induction d with
  | zero =>
    intro j k b h hj hd
    cases k with
    | zero => omega
    | succ k =>
      obtain ⟨nd, ns, tm, rl, vd, ld, vs⟩ := b
      left
      rw [loopN_s]; generalize loopN st6_0 k = LL at *; dsimp only [st6_0]
      rw [cf (decide_eq_false (by omega))]
  | succ d ih =>
    intro j k b h hj hd
    cases k with
    | zero => omega
    | succ k =>
      have ih' := fun b hb => ih (j + 1) k b hb (by omega) (by omega)
      obtain ⟨nd, ns, tm, rl, vd, ld, vs⟩ := b
      rw [loopN_s]; generalize loopN st6_0 k = LL at ih' ⊢; dsimp only [st6_0]
      rw [ct (decide_eq_true (by omega)), ct (in_rng (by omega) (by omega)), Int.toNat_natCast]
      generalize A.getD j (0, 0, 0, 0, 0, 0, 0, 0, 0, 0, 0, false, []) = o
      by_cases c : ((o.2.2.2.2.2.2.2.2.2.2.2.2).length : Int) > 10
      · right
        rw [ct (decide_eq_true c), g7_true]
        rfl
      · rw [cf (decide_eq_false c)]
        obtain ⟨b', ls, e, hb⟩ := step_ok h o.1 o.2.1 o.2.2.1 o.2.2.2.1 o.2.2.2.2
        rw [e]
        simp only [Option.bind_some, Bool.not_true, cond_false]
        rw [wrap_in (n := (j : Int) + 1) (by omega)]
        exact ih' b' hb
theorem law6 {b : Bal} (hb : Bd (.st (.pr (.i .i64) (.pr (.i .i64) (.pr (.i .i64) (.pr (.i .i64) (.pr (.i .i64) (.pr (.i .i64) (.sl (.i .i64))))))))) b) (A : List (Int × Int × Int × Int × Let)) : g6 b.1 b.2.1 b.2.2.1 b.2.2.2.1 b.2.2.2.2.1 b.2.2.2.2.2.1 b.2.2.2.2.2.2 A = some true := by
  obtain ⟨nd, ns, t, rl, vd, ld, vs⟩ := b
  have hns : -9223372036854775808 ≤ ns ∧ ns ≤ 9223372036854775807 := by
    have := hb.2.1
    simpa [Bd, Lit.wf, IntKind.min, IntKind.max, IntKind.signed, IntKind.bits] using this
  have hvs : vs.length ≤ maxLen := hb.2.2.2.2.2.2.1
  unfold g6
  rw [g12_eq hns hvs]
  simp only [Option.bind_some]
  by_cases h : okB (nd, ns, t, rl, vd, ld, vs)
  · have h0 : chk nd ns t rl vd ld vs = 0 := h
    rw [cf (by simpa using h0)]
    by_cases h1 : (A.length : Int) > 60
    · rw [ct (decide_eq_true h1), g7_true]; rfl
    · rw [cf (decide_eq_false h1)]
      rcases loop6 A (by omega) A.length 0 fuel (nd, ns, t, rl, vd, ld, vs) h (by omega) (by rw [fuel_eq]; omega) with e | e
      · have e' : h6_0 ((A, (A.length : Int), 0), nd, ns, t, rl, vd, ld, vs) = _ := e
        rw [e', g7_true]; rfl
      · have e' : h6_0 ((A, (A.length : Int), 0), nd, ns, t, rl, vd, ld, vs) = _ := e
        rw [e']; rfl
  · have h0 : ¬ chk nd ns t rl vd ld vs = 0 := h
    rw [ct (by simpa using h0), g7_true]; rfl
theorem VotePlays {a0 : Ty.den (.st (.pr (.i .i64) (.pr (.i .i64) (.pr (.i .i64) (.pr (.i .i64) (.pr (.i .i64) (.pr (.i .i64) (.sl (.i .i64)))))))))} {a1 : List (Int × Int × Int × Int × Let)} (h0 : Bd (.st (.pr (.i .i64) (.pr (.i .i64) (.pr (.i .i64) (.pr (.i .i64) (.pr (.i .i64) (.pr (.i .i64) (.sl (.i .i64))))))))) a0) (h1 : Bd (.sl (.st (.pr (.i .i64) (.pr (.i .i64) (.pr (.i .i64) (.pr (.i .i64) (.st (.pr (.i .i64) (.pr (.i .i64) (.pr (.i .i64) (.pr (.i .i64) (.pr (.i .i64) (.pr (.i .i64) (.pr (.i .i64) (.pr .b (.sl (.st (.pr (.i .i64) .s)))))))))))))))))) a1) : i6.G (a0, a1) = some true := law6 h0 a1
end Go.Proofs.Ytehjeifbgegabaa.EVT
