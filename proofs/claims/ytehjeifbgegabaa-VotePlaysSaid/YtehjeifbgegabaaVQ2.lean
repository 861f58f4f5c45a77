/- The reference's ballots: they compute the same. -/
import Derived.Test.YtehjeifbgegabaaVQ1
import Derived.Test.YtehjeifbgegabaaWV
set_option linter.unusedVariables false
set_option linter.unusedSimpArgs false
namespace Go.Proofs.Ytehjeifbgegabaa.EVT
open Go Go.EV
theorem ct {α : Type} {b : Bool} {x y : α} (h : b = true) : cond b x y = x := by rw [h]; rfl
theorem cf {α : Type} {b : Bool} {x y : α} (h : b = false) : cond b x y = y := by rw [h]; rfl
theorem loopN_s {σ O : Type} (st : (σ → Option O) → σ → Option O) (n : Nat) (v : σ) : loopN st (n + 1) v = st (loopN st n) v := rfl
theorem in_rng {a n : Int} (h0 : 0 ≤ a) (h1 : a < n) : (decide (0 ≤ a) && decide (a < n)) = true := by simp [h0, h1]
theorem g39_eq {nd ns tm rl vd ld : Int} {vs : List Int} (hl : vs.length ≤ 7) : g39 nd ns tm rl vd ld vs = some (nd, ns, tm, rl, vd, ld, vs) := by
  have : decide (List.length vs ≤ 2147483647) = true := by simp; omega
  show Option.bind (cond (decide (List.length vs ≤ 2147483647)) (some vs) none) _ = _
  rw [this]
  rfl
theorem g40_eq (nd ns tm rl vd ld : Int) (vs : List Int) : g40 nd ns tm rl vd ld vs = some (nd, ns, tm, 2, nd, nd, []) := rfl
theorem g32_eq {nd ns tm rl vd ld : Int} {vs : List Int} (t : Int) (hl : vs.length ≤ 7) : g32 nd ns tm rl vd ld vs t = some (obs (nd, ns, tm, rl, vd, ld, vs) t) := by
  unfold g32 obs Max
  simp only [g39_eq hl, Option.bind_some]
  by_cases h1 : t ≤ tm
  · simp [h1]
  · by_cases h2 : t > 1099511627776 <;> simp [h1, h2]
theorem g41_eq {nd ns : Int} (hn : okN nd ns) (tm rl vd ld : Int) (vs : List Int) (kd fr tu te ix pr cm : Int) (ye : Bool) (es : List (Int × List UInt8)) : g41 nd ns tm rl vd ld vs kd fr tu te ix pr cm ye es = some (con nd ns fr tu te) := by
  unfold okN at hn
  unfold g41 con Max
  have e1 : decide (fr ≤ ns - 1) = decide (fr < ns) := decide_eq_decide.2 (by omega)
  simp only [g20_eq, Option.bind_some, ge_iff_le]
  rw [wrap_in (n := ns - 1) (by omega), e1]
  cases tu == nd <;> cases fr != nd <;> cases decide (0 ≤ fr) <;> cases decide (fr < ns) <;> cases decide (1 ≤ te) <;> rfl
theorem g33_eq {nd ns tm rl vd ld : Int} {vs : List Int} (hn : okN nd ns) (kd fr tu te lix lpr cm : Int) (ye : Bool) (es : List (Int × List UInt8)) (ix pr : Int) (hl : vs.length ≤ 7) : g33 nd ns tm rl vd ld vs kd fr tu te lix lpr cm ye es ix pr = some (ans (nd, ns, tm, rl, vd, ld, vs) kd fr tu te lix lpr ix pr) := by
  unfold g33 ans
  simp only [g39_eq hl, g41_eq hn, g32_eq te hl, Option.bind_some]
  by_cases c1 : kd = 1
  · subst c1
    cases c2 : con nd ns fr tu te
    · simp
    · generalize obs (nd, ns, tm, rl, vd, ld, vs) te = o
      obtain ⟨o1, o2, o3, o4, o5, o6, o7⟩ := o
      simp only [yesA, newer, vote1]
      by_cases d1 : pr < lpr <;> by_cases d5 : lpr = pr <;> by_cases d2 : te = o3 <;> by_cases d3 : o5 = -1 <;> by_cases d4 : o5 = fr <;> by_cases d6 : ix ≤ lix <;> simp [d1, d2, d3, d4, d5, d6, cond_eq_ite]
  · have : (kd != 1) = true := by simpa using c1
    simp [c1, this]
theorem g43_eq {ns fr : Int} {vs : List Int} (hns : 1 ≤ ns ∧ ns ≤ 7) (hf : 0 ≤ fr ∧ fr < ns) (hv : vchk ns none vs = 0) : g43 (vs ++ [fr]) = some (cntVs fr vs) := by
  obtain ⟨a1, a2, _⟩ := vchk_of hv
  have h1 := List.all_eq_true.1 set_all vs (subs_mem 7 0 vs (fun v hv => by have := a1 v hv; omega) a2)
  have h2 := List.all_eq_true.1 h1 fr.toNat (List.mem_range.2 (by omega))
  have h3 := isEq_ok h2
  rw [show ((fr.toNat : Nat) : Int) = fr by omega] at h3
  exact h3
theorem g35_eq {nd ns tm rl vd ld : Int} {vs : List Int} (kd fr tu te lix lpr cm : Int) (ye : Bool) (es : List (Int × List UInt8)) (h : okB (nd, ns, tm, rl, vd, ld, vs)) : g35 nd ns tm rl vd ld vs kd fr tu te lix lpr cm ye es = some (cnt (nd, ns, tm, rl, vd, ld, vs) kd fr tu te ye) := by
  have hl : vs.length ≤ 7 := okB_len h
  obtain ⟨n1, n2, n3, n4, n5, n6⟩ := chk_iff.1 h
  have n1' := n1
  simp only [okN] at n1'
  unfold g35 cnt
  simp only [g39_eq hl, g41_eq n1, g32_eq te hl, Option.bind_some]
  by_cases c1 : kd = 2
  · subst c1
    cases c2 : con nd ns fr tu te
    · simp
    · obtain ⟨_, _, f1, f2, f3, f4⟩ := con_iff.1 c2
      show (bif (2 : Int) != 2 then _ else bif !true then _ else _) = _
      simp only [bne_self_eq_false, cond_false, Bool.not_true, ne_eq, not_true_eq_false, false_or, Bool.true_eq_false, if_false]
      rcases Int.lt_trichotomy te tm with hlt | heq | hgt
      · have eo : obs (nd, ns, tm, rl, vd, ld, vs) te = (nd, ns, tm, rl, vd, ld, vs) := by unfold obs; rw [if_pos (.inl (by simp only; omega))]
        rw [eo, ct (by simp; omega)]
        rw [if_pos (.inl (by simp only; omega))]
      · subst heq
        have eo : obs (nd, ns, te, rl, vd, ld, vs) te = (nd, ns, te, rl, vd, ld, vs) := by unfold obs; rw [if_pos (.inl (Int.le_refl _))]
        rw [eo, cf (by simp)]
        simp only
        by_cases d2 : rl = 1
        · rw [cf (by simpa using d2)]
          cases ye
          · rw [ct (b := !false) rfl, if_pos (.inr (.inr rfl))]
          · rw [cf (b := !true) rfl, if_neg (by simp [d2]), ct (decide_eq_true (by omega)), g43_eq ⟨n1'.1, n1'.2.1⟩ ⟨f1, f2⟩ n5]
            simp only [Option.bind_some]
            rw [g37_eq _ _ (by omega)]
            simp only [Option.bind_some, g40_eq]
            cases hq : quo (cntVs fr vs).length ns
            · simp [d2]
            · have h6 : cons nd ns te rl vd ld vs = true := n6
              have : vd = nd := by
                unfold cons at h6
                simp [d2] at h6
                omega
              simp [this]
        · rw [ct (by simpa using d2), if_pos (.inr (.inl d2))]
      · have eo : obs (nd, ns, tm, rl, vd, ld, vs) te = (nd, ns, te, 0, -1, -1, []) := by unfold obs; rw [if_neg (by simp only; omega)]
        rw [eo, ct (by simp; omega)]
        rw [if_pos (.inr (.inl (by simp)))]
  · have : (kd != 2) = true := by simpa using c1
    simp [c1, this]
theorem st30_eq : st30_0 = st13_0 := rfl
theorem g30_eq {nd ns tm rl vd ld : Int} {vs : List Int} (ix pr : Int) (h : okB (nd, ns, tm, rl, vd, ld, vs)) : g30 nd ns tm rl vd ld vs ix pr = some (camp (nd, ns, tm, rl, vd, ld, vs), campL (nd, ns, tm, rl, vd, ld, vs) ix pr) := by
  have hl := okB_len h
  obtain ⟨h1, h2, _⟩ := chk_iff.1 h
  simp only [okN] at h1 h2
  unfold g30 camp campL Max
  simp only [g39_eq (show vs.length ≤ 7 from hl), g40_eq, Option.bind_some]
  have e1 : IntKind.i64.wrap (tm + 1) = tm + 1 := wrap_in (by omega)
  by_cases c1 : tm ≥ 1099511627776
  · simp [c1]
  · by_cases c2 : ns = 1
    · simp [c1, c2, e1]
    · have hh := loop13L (ix := ix) (pr := pr) (ns := ns) (by omega) (r8 := (nd, ns, tm + 1, 1, nd, -1, ())) (r6 := (0, 0, 0, 0, 0, 0, [])) (nd := nd) (a1 := ns) (a2 := tm) (a3 := rl) (a4 := vd) (a5 := ld) (vs := vs) (r31 := [nd]) ns.toNat 0 fuel [] (by omega) (by rw [fuel_eq]; omega) (by simp)
      have hh' : h30_0 ((ix, pr, ns, 0), [], (nd, ns, tm + 1, 1, nd, -1, ()), (0, 0, 0, 0, 0, 0, []), (nd, ns, tm, rl, vd, ld, vs), [nd]) = _ := hh
      have c2' : (ns == 1) = false := by simpa using c2
      rw [e1, hh']
      simp [c1, c2, c2']
/-! ### equal to itself -/
theorem loop21 (l : List Int) (hl : l.length ≤ 2147483647) : ∀ (d j k : Nat), j + d = l.length → d < k → loopN st21_0 k ((l, l, (l.length : Int), (j : Int)), ()) = some (.inl ((), ())) := by
  intro d
  induction d with
  | zero =>
    intro j k hj hd
    cases k with
    | zero => omega
    | succ k => rw [loopN_s]; dsimp only [st21_0]; rw [cf (decide_eq_false (by omega))]
  | succ d ih =>
    intro j k hj hd
    cases k with
    | zero => omega
    | succ k =>
      have ih' := ih (j + 1) k (by omega) (by omega)
      rw [loopN_s]; dsimp only [st21_0]
      rw [ct (decide_eq_true (by omega)), ct (in_rng (by omega) (by omega)), ct (in_rng (by omega) (by omega)), cf (by simp), wrap_in (by omega)]
      exact ih'
theorem g21_self (l : List Int) (hl : l.length ≤ 2147483647) : g21 l l = some true := by
  unfold g21
  have h : h21_0 ((l, l, (l.length : Int), 0), ()) = _ := loop21 l hl l.length 0 fuel (by omega) (by rw [fuel_eq]; omega)
  rw [cf (by simp), h]
  rfl
theorem loop42 (l : List (Int × List UInt8)) (hl : l.length ≤ 2147483647) : ∀ (d j k : Nat), j + d = l.length → d < k → loopN st42_0 k ((l, l, (l.length : Int), (j : Int)), ()) = some (.inl ((), ())) := by
  intro d
  induction d with
  | zero =>
    intro j k hj hd
    cases k with
    | zero => omega
    | succ k => rw [loopN_s]; dsimp only [st42_0]; rw [cf (decide_eq_false (by omega))]
  | succ d ih =>
    intro j k hj hd
    cases k with
    | zero => omega
    | succ k =>
      have ih' := ih (j + 1) k (by omega) (by omega)
      rw [loopN_s]; dsimp only [st42_0]
      rw [ct (decide_eq_true (by omega)), ct (in_rng (by omega) (by omega)), ct (in_rng (by omega) (by omega)), cf (by simp), wrap_in (by omega)]
      exact ih'
theorem g42_self (l : List (Int × List UInt8)) (hl : l.length ≤ 2147483647) : g42 l l = some true := by
  unfold g42
  have h : h42_0 ((l, l, (l.length : Int), 0), ()) = _ := loop42 l hl l.length 0 fuel (by omega) (by rw [fuel_eq]; omega)
  rw [cf (by simp), h]
  rfl
theorem g34_self (l : Let) (hl : l.2.2.2.2.2.2.2.2.length ≤ 2147483647) : g34 l.1 l.2.1 l.2.2.1 l.2.2.2.1 l.2.2.2.2.1 l.2.2.2.2.2.1 l.2.2.2.2.2.2.1 l.2.2.2.2.2.2.2.1 l.2.2.2.2.2.2.2.2 l.1 l.2.1 l.2.2.1 l.2.2.2.1 l.2.2.2.2.1 l.2.2.2.2.2.1 l.2.2.2.2.2.2.1 l.2.2.2.2.2.2.2.1 l.2.2.2.2.2.2.2.2 = some true := by
  unfold g34
  rw [g42_self _ hl]
  simp
theorem loop31 (l : List Let) (hl : l.length ≤ 2147483647) (he : ∀ x ∈ l, x.2.2.2.2.2.2.2.2.length ≤ 2147483647) : ∀ (d j k : Nat), j + d = l.length → d < k → loopN st31_0 k ((l, l, (l.length : Int), (j : Int)), ()) = some (.inl ((), ())) := by
  intro d
  induction d with
  | zero =>
    intro j k hj hd
    cases k with
    | zero => omega
    | succ k => rw [loopN_s]; dsimp only [st31_0]; rw [cf (decide_eq_false (by omega))]
  | succ d ih =>
    intro j k hj hd
    cases k with
    | zero => omega
    | succ k =>
      have ih' := ih (j + 1) k (by omega) (by omega)
      rw [loopN_s]; dsimp only [st31_0]
      rw [ct (decide_eq_true (by omega)), ct (in_rng (by omega) (by omega)), ct (in_rng (by omega) (by omega)), Int.toNat_natCast]
      have hj' : j < l.length := by omega
      have hg := g34_self (l.getD j (0, 0, 0, 0, 0, 0, 0, false, [])) (by rw [getD_at _ hj']; exact he _ (List.getElem_mem _))
      rw [hg]
      simp only [Option.bind_some, Bool.not_true, cond_false]
      rw [wrap_in (by omega)]
      exact ih'
theorem g31_self (l : List Let) (hl : l.length ≤ 2147483647) (he : ∀ x ∈ l, x.2.2.2.2.2.2.2.2.length ≤ 2147483647) : g31 l l = some true := by
  unfold g31
  have h : h31_0 ((l, l, (l.length : Int), 0), ()) = _ := loop31 l hl he l.length 0 fuel (by omega) (by rw [fuel_eq]; omega)
  rw [cf (by simp), h]
  rfl
theorem g10_self (b : Bal) (hl : b.2.2.2.2.2.2.length ≤ 7) : g10 b.1 b.2.1 b.2.2.1 b.2.2.2.1 b.2.2.2.2.1 b.2.2.2.2.2.1 b.2.2.2.2.2.2 b.1 b.2.1 b.2.2.1 b.2.2.2.1 b.2.2.2.2.1 b.2.2.2.2.2.1 b.2.2.2.2.2.2 = some true := by
  unfold g10
  rw [g21_self _ (by omega)]
  simp
end Go.Proofs.Ytehjeifbgegabaa.EVT
