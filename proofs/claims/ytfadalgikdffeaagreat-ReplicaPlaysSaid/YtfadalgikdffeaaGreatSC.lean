/- The reference's sets of votes: all of them, computed. -/
import Derived.Test.YtfadalgikdffeaaGreatUP
import Derived.Test.YtfadalgikdffeaaGreatSA
import Derived.Test.YtfadalgikdffeaaGreatSB
import Derived.Test.YtfadalgikdffeaaGreatUB
set_option linter.unusedVariables false
set_option maxRecDepth 100000
set_option maxHeartbeats 0
namespace Go.Proofs.YtfadalgikdffeaaGreat.EVT
open Go Go.EV
/-- The lists of votes: all growing lists of numbers from j on, below j + k. -/
def subs : Nat → Nat → List (List Int)
  | 0, _ => [[]]
  | k + 1, j => subs k (j + 1) ++ (subs k (j + 1)).map (fun l => (j : Int) :: l)
theorem subs_mem : ∀ (k j : Nat) (vs : List Int), (∀ v ∈ vs, (j : Int) ≤ v ∧ v < (j : Int) + k) → vs.Pairwise (· < ·) → vs ∈ subs k j := by
  intro k
  induction k with
  | zero =>
    intro j vs h hp
    cases vs with
    | nil => simp [subs]
    | cons v vs => have := h v (by simp); omega
  | succ k ih =>
    intro j vs h hp
    simp only [subs, List.mem_append, List.mem_map]
    cases vs with
    | nil => exact .inl (ih (j + 1) [] (by simp) (by simp))
    | cons v vs =>
      have hv := h v (by simp)
      have hr : ∀ w ∈ vs, v < w := (List.pairwise_cons.1 hp).1
      by_cases e : v = (j : Int)
      · refine .inr ⟨vs, ih (j + 1) vs (fun w hw => ?_) (List.pairwise_cons.1 hp).2, by rw [e]⟩
        have h1 := hr w hw
        have h2 := h w (by simp [hw])
        omega
      · refine .inl (ih (j + 1) (v :: vs) (fun w hw => ?_) hp)
        rcases List.mem_cons.1 hw with rfl | hw
        · omega
        · have h1 := hr w hw
          have h2 := h w (by simp [hw])
          omega
def isEq (o : Option (List Int)) (l : List Int) : Bool := match o with
  | some x => x == l
  | none => false
theorem isEq_ok {o : Option (List Int)} {l : List Int} (h : isEq o l = true) : o = some l := by
  unfold isEq at h
  split at h
  · rw [eq_of_beq h]
  · cases h
/-- Sorted and without doubles: counted out. -/
theorem set_all : ((subs 7 0).all fun vs => (List.range 7).all fun f => isEq (g76 (vs ++ [(f : Int)])) (cntVs (f : Int) vs)) = true := by kernel_rfl
end Go.Proofs.YtfadalgikdffeaaGreat.EVT
/- The reference's ballots: they compute the same. -/
set_option linter.unusedVariables false
set_option linter.unusedSimpArgs false
namespace Go.Proofs.YtfadalgikdffeaaGreat.EVT
open Go Go.EV
theorem g68_eq {nd ns tm rl vd ld : Int} {vs : List Int} (hl : vs.length ≤ 7) : g68 nd ns tm rl vd ld vs = some (nd, ns, tm, rl, vd, ld, vs) := by
  have : decide (List.length vs ≤ 2147483647) = true := by simp; omega
  show Option.bind (cond (decide (List.length vs ≤ 2147483647)) (some vs) none) _ = _
  rw [this]
  rfl
theorem g69_eq (nd ns tm rl vd ld : Int) (vs : List Int) : g69 nd ns tm rl vd ld vs = some (nd, ns, tm, 2, nd, nd, []) := rfl
theorem g55_eq {nd ns tm rl vd ld : Int} {vs : List Int} (t : Int) (hl : vs.length ≤ 7) : g55 nd ns tm rl vd ld vs t = some (obs (nd, ns, tm, rl, vd, ld, vs) t) := by
  unfold g55 obs Max
  simp only [g68_eq hl, Option.bind_some]
  by_cases h1 : t ≤ tm
  · simp [h1]
  · by_cases h2 : t > 1099511627776 <;> simp [h1, h2]
theorem g50_eq {nd ns : Int} (hn : okN nd ns) (tm rl vd ld : Int) (vs : List Int) (kd fr tu te ix pr cm : Int) (ye : Bool) (es : List (Int × List UInt8)) : g50 nd ns tm rl vd ld vs kd fr tu te ix pr cm ye es = some (con nd ns fr tu te) := by
  unfold okN at hn
  unfold g50 con Max
  have e1 : decide (fr ≤ ns - 1) = decide (fr < ns) := decide_eq_decide.2 (by omega)
  simp only [g59_eq, Option.bind_some, ge_iff_le]
  rw [wrap_in (n := ns - 1) (by omega), e1]
  cases tu == nd <;> cases fr != nd <;> cases decide (0 ≤ fr) <;> cases decide (fr < ns) <;> cases decide (1 ≤ te) <;> rfl
theorem g51_eq {nd ns tm rl vd ld : Int} {vs : List Int} (hn : okN nd ns) (kd fr tu te lix lpr cm : Int) (ye : Bool) (es : List (Int × List UInt8)) (ix pr : Int) (hl : vs.length ≤ 7) : g51 nd ns tm rl vd ld vs kd fr tu te lix lpr cm ye es ix pr = some (ans (nd, ns, tm, rl, vd, ld, vs) kd fr tu te lix lpr ix pr) := by
  unfold g51 ans
  simp only [g68_eq hl, g50_eq hn, g55_eq te hl, Option.bind_some]
  by_cases c1 : kd = 1
  · subst c1
    cases c2 : con nd ns fr tu te
    · simp
    · generalize obs (nd, ns, tm, rl, vd, ld, vs) te = o
      obtain ⟨o1, o2, o3, o4, o5, o6, o7⟩ := o
      simp only [yesA, newer, vote1]
      by_cases d1 : pr < lpr <;> by_cases d5 : lpr = pr <;> by_cases d2 : te = o3 <;> by_cases d3 : o5 = -1 <;> by_cases d4 : o5 = fr <;> by_cases d6 : ix ≤ lix <;> simp [d1, d2, d3, d4, d5, d6, cond_eq_ite]
  · have : (kd != 1) = true := by simpa using c1
    simp [c1, this]
theorem g76_eq {ns fr : Int} {vs : List Int} (hns : 1 ≤ ns ∧ ns ≤ 7) (hf : 0 ≤ fr ∧ fr < ns) (hv : vchk ns none vs = 0) : g76 (vs ++ [fr]) = some (cntVs fr vs) := by
  obtain ⟨a1, a2, _⟩ := vchk_of hv
  have h1 := List.all_eq_true.1 set_all vs (subs_mem 7 0 vs (fun v hv => by have := a1 v hv; omega) a2)
  have h2 := List.all_eq_true.1 h1 fr.toNat (List.mem_range.2 (by omega))
  have h3 := isEq_ok h2
  rw [show ((fr.toNat : Nat) : Int) = fr by omega] at h3
  exact h3
theorem g52_eq {nd ns tm rl vd ld : Int} {vs : List Int} (kd fr tu te lix lpr cm : Int) (ye : Bool) (es : List (Int × List UInt8)) (h : okB (nd, ns, tm, rl, vd, ld, vs)) : g52 nd ns tm rl vd ld vs kd fr tu te lix lpr cm ye es = some (cnt (nd, ns, tm, rl, vd, ld, vs) kd fr tu te ye) := by
  have hl : vs.length ≤ 7 := okB_len h
  obtain ⟨n1, n2, n3, n4, n5, n6⟩ := chk_iff.1 h
  have n1' := n1
  simp only [okN] at n1'
  unfold g52 cnt
  simp only [g68_eq hl, g50_eq n1, g55_eq te hl, Option.bind_some]
  by_cases c1 : kd = 2
  · subst c1
    cases c2 : con nd ns fr tu te
    · simp
    · obtain ⟨_, _, f1, f2, f3, f4⟩ := con_iff.1 c2
      show (bif (2 : Int) != 2 then _ else bif !true then _ else _) = _
      simp only [bne_self_eq_false, cond_false, Bool.not_true, ne_eq, not_true_eq_false, false_or, Bool.true_eq_false, if_false]
      rcases Int.lt_trichotomy te tm with hlt | heq | hgt
      · have eo : obs (nd, ns, tm, rl, vd, ld, vs) te = (nd, ns, tm, rl, vd, ld, vs) := by unfold obs; rw [if_pos (.inl (by simp only; omega))]
        rw [eo, ct (by simp; omega)]
        rw [if_pos (.inl (by simp only; omega))]
      · subst heq
        have eo : obs (nd, ns, te, rl, vd, ld, vs) te = (nd, ns, te, rl, vd, ld, vs) := by unfold obs; rw [if_pos (.inl (Int.le_refl _))]
        rw [eo, cf (by simp)]
        simp only
        by_cases d2 : rl = 1
        · rw [cf (by simpa using d2)]
          cases ye
          · rw [ct (b := !false) rfl, if_pos (.inr (.inr rfl))]
          · rw [cf (b := !true) rfl, if_neg (by simp [d2]), ct (decide_eq_true (by omega)), g76_eq ⟨n1'.1, n1'.2.1⟩ ⟨f1, f2⟩ n5]
            simp only [Option.bind_some]
            rw [g72_eq _ _ (by omega)]
            simp only [Option.bind_some, g69_eq]
            cases hq : quo (cntVs fr vs).length ns
            · simp [d2]
            · have h6 : cons nd ns te rl vd ld vs = true := n6
              have : vd = nd := by
                unfold cons at h6
                simp [d2] at h6
                omega
              simp [this]
        · rw [ct (by simpa using d2), if_pos (.inr (.inl d2))]
      · have eo : obs (nd, ns, tm, rl, vd, ld, vs) te = (nd, ns, te, 0, -1, -1, []) := by unfold obs; rw [if_neg (by simp only; omega)]
        rw [eo, ct (by simp; omega)]
        rw [if_pos (.inr (.inl (by simp)))]
  · have : (kd != 2) = true := by simpa using c1
    simp [c1, this]
theorem st30_eq : st37_0 = st33_0 := rfl
theorem g37_eq {nd ns tm rl vd ld : Int} {vs : List Int} (ix pr : Int) (h : okB (nd, ns, tm, rl, vd, ld, vs)) : g37 nd ns tm rl vd ld vs ix pr = some (camp (nd, ns, tm, rl, vd, ld, vs), campL (nd, ns, tm, rl, vd, ld, vs) ix pr) := by
  have hl := okB_len h
  obtain ⟨h1, h2, _⟩ := chk_iff.1 h
  simp only [okN] at h1 h2
  unfold g37 camp campL Max
  simp only [g68_eq (show vs.length ≤ 7 from hl), g69_eq, Option.bind_some]
  have e1 : IntKind.i64.wrap (tm + 1) = tm + 1 := wrap_in (by omega)
  by_cases c1 : tm ≥ 1099511627776
  · simp [c1]
  · by_cases c2 : ns = 1
    · simp [c1, c2, e1]
    · have hh := loop13L (ix := ix) (pr := pr) (ns := ns) (by omega) (r8 := (nd, ns, tm + 1, 1, nd, -1, ())) (r6 := (0, 0, 0, 0, 0, 0, [])) (nd := nd) (a1 := ns) (a2 := tm) (a3 := rl) (a4 := vd) (a5 := ld) (vs := vs) (r31 := [nd]) ns.toNat 0 fuel [] (by omega) (by rw [fuel_eq]; omega) (by simp)
      have hh' : h37_0 ((ix, pr, ns, 0), [], (nd, ns, tm + 1, 1, nd, -1, ()), (0, 0, 0, 0, 0, 0, []), (nd, ns, tm, rl, vd, ld, vs), [nd]) = _ := hh
      have c2' : (ns == 1) = false := by simpa using c2
      rw [e1, hh']
      simp [c1, c2, c2']
/-! ### equal to itself -/
theorem loop21 (l : List Int) (hl : l.length ≤ 2147483647) : ∀ (d j k : Nat), j + d = l.length → d < k → loopN st29_0 k ((l, l, (l.length : Int), (j : Int)), ()) = some (.inl ((), ())) := by
  intro d
  induction d with
  | zero =>
    intro j k hj hd
    cases k with
    | zero => omega
    | succ k => rw [loopN_s]; dsimp only [st29_0]; rw [cf (decide_eq_false (by omega))]
  | succ d ih =>
    intro j k hj hd
    cases k with
    | zero => omega
    | succ k =>
      have ih' := ih (j + 1) k (by omega) (by omega)
      rw [loopN_s]; dsimp only [st29_0]
      rw [ct (decide_eq_true (by omega)), ct (in_rng (by omega) (by omega)), ct (in_rng (by omega) (by omega)), cf (by simp), wrap_in (by omega)]
      exact ih'
theorem g29_self (l : List Int) (hl : l.length ≤ 2147483647) : g29 l l = some true := by
  unfold g29
  have h : h29_0 ((l, l, (l.length : Int), 0), ()) = _ := loop21 l hl l.length 0 fuel (by omega) (by rw [fuel_eq]; omega)
  rw [cf (by simp), h]
  rfl
theorem loop42 (l : List (Int × List UInt8)) (hl : l.length ≤ 2147483647) : ∀ (d j k : Nat), j + d = l.length → d < k → loopN st42_0 k ((l, l, (l.length : Int), (j : Int)), ()) = some (.inl ((), ())) := by
  intro d
  induction d with
  | zero =>
    intro j k hj hd
    cases k with
    | zero => omega
    | succ k => rw [loopN_s]; dsimp only [st42_0]; rw [cf (decide_eq_false (by omega))]
  | succ d ih =>
    intro j k hj hd
    cases k with
    | zero => omega
    | succ k =>
      have ih' := ih (j + 1) k (by omega) (by omega)
      rw [loopN_s]; dsimp only [st42_0]
      rw [ct (decide_eq_true (by omega)), ct (in_rng (by omega) (by omega)), ct (in_rng (by omega) (by omega)), cf (by simp), wrap_in (by omega)]
      exact ih'
theorem g42_self (l : List (Int × List UInt8)) (hl : l.length ≤ 2147483647) : g42 l l = some true := by
  unfold g42
  have h : h42_0 ((l, l, (l.length : Int), 0), ()) = _ := loop42 l hl l.length 0 fuel (by omega) (by rw [fuel_eq]; omega)
  rw [cf (by simp), h]
  rfl
theorem g57_self (l : Let) (hl : l.2.2.2.2.2.2.2.2.length ≤ 2147483647) : g57 l.1 l.2.1 l.2.2.1 l.2.2.2.1 l.2.2.2.2.1 l.2.2.2.2.2.1 l.2.2.2.2.2.2.1 l.2.2.2.2.2.2.2.1 l.2.2.2.2.2.2.2.2 l.1 l.2.1 l.2.2.1 l.2.2.2.1 l.2.2.2.2.1 l.2.2.2.2.2.1 l.2.2.2.2.2.2.1 l.2.2.2.2.2.2.2.1 l.2.2.2.2.2.2.2.2 = some true := by
  unfold g57
  rw [g42_self _ hl]
  simp
theorem loop31 (l : List Let) (hl : l.length ≤ 2147483647) (he : ∀ x ∈ l, x.2.2.2.2.2.2.2.2.length ≤ 2147483647) : ∀ (d j k : Nat), j + d = l.length → d < k → loopN st17_0 k ((l, l, (l.length : Int), (j : Int)), ()) = some (.inl ((), ())) := by
  intro d
  induction d with
  | zero =>
    intro j k hj hd
    cases k with
    | zero => omega
    | succ k => rw [loopN_s]; dsimp only [st17_0]; rw [cf (decide_eq_false (by omega))]
  | succ d ih =>
    intro j k hj hd
    cases k with
    | zero => omega
    | succ k =>
      have ih' := ih (j + 1) k (by omega) (by omega)
      rw [loopN_s]; dsimp only [st17_0]
      rw [ct (decide_eq_true (by omega)), ct (in_rng (by omega) (by omega)), ct (in_rng (by omega) (by omega)), Int.toNat_natCast]
      have hj' : j < l.length := by omega
      have hg := g57_self (l.getD j (0, 0, 0, 0, 0, 0, 0, false, [])) (by rw [getD_at _ hj']; exact he _ (List.getElem_mem _))
      rw [hg]
      simp only [Option.bind_some, Bool.not_true, cond_false]
      rw [wrap_in (by omega)]
      exact ih'
theorem g17_self (l : List Let) (hl : l.length ≤ 2147483647) (he : ∀ x ∈ l, x.2.2.2.2.2.2.2.2.length ≤ 2147483647) : g17 l l = some true := by
  unfold g17
  have h : h17_0 ((l, l, (l.length : Int), 0), ()) = _ := loop31 l hl he l.length 0 fuel (by omega) (by rw [fuel_eq]; omega)
  rw [cf (by simp), h]
  rfl
theorem g41_self (b : Bal) (hl : b.2.2.2.2.2.2.length ≤ 7) : g41 b.1 b.2.1 b.2.2.1 b.2.2.2.1 b.2.2.2.2.1 b.2.2.2.2.2.1 b.2.2.2.2.2.2 b.1 b.2.1 b.2.2.1 b.2.2.2.1 b.2.2.2.2.1 b.2.2.2.2.2.1 b.2.2.2.2.2.2 = some true := by
  unfold g41
  rw [g29_self _ (by omega)]
  simp
end Go.Proofs.YtfadalgikdffeaaGreat.EVT
/- Replicated logs: the checks answer as told. -/
set_option linter.unusedVariables false
set_option linter.unusedSimpArgs false
namespace Go.Proofs.YtfadalgikdffeaaGreat.EVT
open Go Go.EV

def chkO {α : Type} (x : α) (z : Int) : α ⊕ Int := if z = 0 then .inl x else .inr z
theorem chkO0 {α : Type} (x : α) : chkO x 0 = .inl x := rfl
theorem chkO1 {α : Type} {x : α} {z : Int} (h : ¬ z = 0) : chkO x z = .inr z := if_neg h
theorem g80_eq {nd ns tm rl vd ld : Int} {vs : List Int} (hns : ns ≤ 9223372036854775807) (hlen : vs.length ≤ maxLen) (hrl : rl = 0 ∨ rl = 1 ∨ rl = 2) : g80 nd ns tm rl vd ld vs = some (cons nd ns tm rl vd ld vs) := by
  unfold g80 cons
  rw [g78_eq vs nd hlen, g71_eq _ _ hns]
  rcases hrl with rfl | rfl | rfl
  · cases h1 : (tm == 0) <;> cases h3 : (vd != -1) <;> cases h4 : (ld != -1) <;> cases h6 : ((vs.length : Int) == 0) <;> simp_all
  · cases h1 : (tm == 0) <;> cases h6 : (vd == nd) <;> cases h7 : (ld == -1) <;> cases h8 : decide (nd ∈ vs) <;> simp_all
  · cases h1 : (tm == 0) <;> cases h6 : (vd == nd) <;> cases h7 : (ld == nd) <;> simp_all
theorem vchk_loop {nd ns tm rl vd ld : Int} (vs : List Int) (hl : vs.length ≤ 100000) : ∀ (k j n : Nat), k + j = vs.length → k < n →
    loopN st62_0 n ((vs, (vs.length : Int), (j : Int)), nd, ns, tm, rl, vd, ld, vs) = some (chkO ((), nd, ns, tm, rl, vd, ld, vs) (vchk ns (pv vs j) (vs.drop j)))
  | 0, j, n + 1, hk, hn => by
    have : vs.drop j = [] := List.drop_eq_nil_of_le (by omega)
    rw [loopN_s]; dsimp only [st62_0]
    rw [cf (decide_eq_false (by omega)), this]
    rfl
  | k + 1, j, n + 1, hk, hn => by
    have ih := vchk_loop (nd := nd) (ns := ns) (tm := tm) (rl := rl) (vd := vd) (ld := ld) vs hl k (j + 1) n (by omega) (by omega)
    have hj : j < vs.length := by omega
    rw [loopN_s]; dsimp only [st62_0]
    rw [ct (decide_eq_true (by omega)), ct (in_rng (by omega) (by omega)), Int.toNat_natCast, getD_at 0 hj, List.drop_eq_getElem_cons hj, wrap_in (n := (j : Int) + 1) (by omega), show ((j : Int) + 1) = ((j + 1 : Nat) : Int) by omega, ih]
    have hpv2 : pv vs (j + 1) = some vs[j] := by simp [pv, hj]
    have e0 : vchk ns (pv vs j) (vs[j] :: vs.drop (j + 1)) = if vs[j] < 0 ∨ vs[j] ≥ ns then 1 else if leP vs[j] (pv vs j) then 22 else vchk ns (some vs[j]) (vs.drop (j + 1)) := by rw [vchk]
    rw [e0, hpv2]
    by_cases h1 : vs[j] < 0
    · rw [ct (decide_eq_true h1), if_pos (.inl h1)]; rfl
    rw [cf (decide_eq_false h1)]
    by_cases h2 : vs[j] ≥ ns
    · rw [ct (decide_eq_true h2), if_pos (.inr h2)]; rfl
    rw [cf (decide_eq_false h2), if_neg (by omega)]
    cases j with
    | zero => rw [cf (by simp)]; simp [pv, leP]
    | succ i =>
      have hi : i < vs.length := by omega
      rw [ct (decide_eq_true (by omega)), wrap_in (n := ((i + 1 : Nat) : Int) - 1) (by omega), show ((i + 1 : Nat) : Int) - 1 = (i : Int) by omega, ct (in_rng (by omega) (by omega)), Int.toNat_natCast, getD_at 0 hi]
      have hpv : pv vs (i + 1) = some vs[i] := by simp [pv, hi]
      rw [hpv]
      by_cases h3 : vs[i + 1] ≤ vs[i]
      · rw [ct (decide_eq_true h3), if_pos (by simpa [leP] using h3)]; rfl
      · rw [cf (decide_eq_false h3), if_neg (by simpa [leP] using h3)]
theorem g79_eq (nd ns : Int) : g79 nd ns = some (if okN nd ns then ((nd, ns, 0, 0, -1, -1, []), 0) else ((0, 0, 0, 0, 0, 0, []), 1)) := by
  unfold g79
  by_cases h1 : ns < 1
  · rw [ct (decide_eq_true h1), if_neg (by unfold okN; omega)]
  rw [cf (decide_eq_false h1)]
  by_cases h2 : ns > 7
  · rw [ct (decide_eq_true h2), if_neg (by unfold okN; omega)]
  rw [cf (decide_eq_false h2)]
  by_cases h3 : nd < 0
  · rw [ct (decide_eq_true h3), if_neg (by unfold okN; omega)]
  rw [cf (decide_eq_false h3)]
  by_cases h4 : nd ≥ ns
  · rw [ct (decide_eq_true h4), if_neg (by unfold okN; omega)]
  rw [cf (decide_eq_false h4), if_pos (by unfold okN; omega)]
theorem vtail {nd ns tm rl vd ld : Int} {vs : List Int} (hns : ns ≤ 7) (hl : vs.length ≤ 100000) (hrl : rl = 0 ∨ rl = 1 ∨ rl = 2) (h1 : okN nd ns) (h2 : ¬ (tm < 0 ∨ tm > 1099511627776)) (h3 : ¬ (vd < -1 ∨ vd ≥ ns ∨ ld < -1 ∨ ld ≥ ns)) :
    (Option.bind (h62_0 ((vs, (vs.length : Int), 0), nd, ns, tm, rl, vd, ld, vs)) fun v2 =>
      match v2 with
      | .inl x3 =>
        Option.bind (g80 x3.2.1 x3.2.2.1 x3.2.2.2.1 x3.2.2.2.2.1 x3.2.2.2.2.2.1 x3.2.2.2.2.2.2.1 x3.2.2.2.2.2.2.2) fun v4 =>
        cond (!v4)
          (some (9))
          (some (0))
      | .inr x3 =>
        some (x3)) = some (chk nd ns tm rl vd ld vs) := by
  have h := vchk_loop (nd := nd) (ns := ns) (tm := tm) (rl := rl) (vd := vd) (ld := ld) vs hl vs.length 0 fuel (by omega) (by rw [fuel_eq]; omega)
  have h' : h62_0 ((vs, (vs.length : Int), 0), nd, ns, tm, rl, vd, ld, vs) = _ := h
  rw [h', List.drop_zero]
  have hm : maxLen = 9223372036854775807 := rfl
  unfold chk
  rw [if_neg (show ¬ ¬ okN nd ns by simpa using h1), if_neg h2, if_neg (show ¬ (rl ≠ 0 ∧ rl ≠ 1 ∧ rl ≠ 2) by omega), if_neg h3]
  have hp : pv vs 0 = none := rfl
  rw [hp]
  by_cases h7 : vchk ns none vs = 0
  · rw [if_neg (show ¬ (vchk ns none vs ≠ 0) by simpa using h7), h7, chkO0]
    simp only [Option.bind_some]
    rw [g80_eq (by omega) (by omega) hrl]
    cases cons nd ns tm rl vd ld vs <;> rfl
  · rw [if_pos (show vchk ns none vs ≠ 0 from h7), chkO1 h7]
    rfl
theorem g62_eq {nd ns tm rl vd ld : Int} {vs : List Int} (hl : vs.length ≤ 100000) : g62 nd ns tm rl vd ld vs = some (chk nd ns tm rl vd ld vs) := by
  unfold g62
  rw [g79_eq]
  simp only [Option.bind_some]
  by_cases h1 : okN nd ns
  rotate_left
  · rw [if_neg h1, ct (by rfl)]
    unfold chk
    rw [if_pos h1]
  have h1' := h1
  unfold okN at h1'
  rw [if_pos h1, cf (by rfl)]
  by_cases h2 : tm < 0
  · rw [ct (decide_eq_true h2)]
    unfold chk
    rw [if_neg (show ¬ ¬ okN nd ns by simpa using h1), if_pos (.inl h2)]
  rw [cf (decide_eq_false h2)]
  by_cases h3 : tm > 1099511627776
  · rw [ct (decide_eq_true h3)]
    unfold chk
    rw [if_neg (show ¬ ¬ okN nd ns by simpa using h1), if_pos (.inr h3)]
  rw [cf (decide_eq_false h3)]
  have key : ∀ (hrl : rl = 0 ∨ rl = 1 ∨ rl = 2), (cond (decide (vd < -1)) (some (1 : Int)) (cond (decide (vd ≥ ns)) (some 1) (cond (decide (ld < -1)) (some 1) (cond (decide (ld ≥ ns)) (some 1) ((Option.bind (h62_0 ((vs, (vs.length : Int), 0), nd, ns, tm, rl, vd, ld, vs)) fun v2 =>
      match v2 with
      | .inl x3 =>
        Option.bind (g80 x3.2.1 x3.2.2.1 x3.2.2.2.1 x3.2.2.2.2.1 x3.2.2.2.2.2.1 x3.2.2.2.2.2.2.1 x3.2.2.2.2.2.2.2) fun v4 =>
        cond (!v4)
          (some (9))
          (some (0))
      | .inr x3 =>
        some (x3))))))) = some (chk nd ns tm rl vd ld vs) := by
    intro hrl
    have bad : (vd < -1 ∨ vd ≥ ns ∨ ld < -1 ∨ ld ≥ ns) → chk nd ns tm rl vd ld vs = 1 := fun hb => by
      unfold chk
      rw [if_neg (show ¬ ¬ okN nd ns by simpa using h1), if_neg (show ¬ (tm < 0 ∨ tm > 1099511627776) by omega), if_neg (show ¬ (rl ≠ 0 ∧ rl ≠ 1 ∧ rl ≠ 2) by omega), if_pos hb]
    by_cases k1 : vd < -1
    · rw [ct (decide_eq_true k1), bad (.inl k1)]
    rw [cf (decide_eq_false k1)]
    by_cases k2 : vd ≥ ns
    · rw [ct (decide_eq_true k2), bad (.inr (.inl k2))]
    rw [cf (decide_eq_false k2)]
    by_cases k3 : ld < -1
    · rw [ct (decide_eq_true k3), bad (.inr (.inr (.inl k3)))]
    rw [cf (decide_eq_false k3)]
    by_cases k4 : ld ≥ ns
    · rw [ct (decide_eq_true k4), bad (.inr (.inr (.inr k4)))]
    rw [cf (decide_eq_false k4)]
    exact vtail (by omega) hl hrl h1 (by omega) (by omega)
  by_cases h4 : rl = 0
  · rw [cf (by (rw [Bool.eq_false_iff]; simp only [ne_eq, Bool.and_eq_true, Bool.or_eq_true, decide_eq_true_eq, beq_iff_eq, bne_iff_ne, Bool.not_eq_true', decide_eq_false_iff_not, and_true, true_and]; omega))]; exact key (.inl h4)
  rw [ct (by (simp only [ne_eq, Bool.and_eq_true, Bool.or_eq_true, decide_eq_true_eq, beq_iff_eq, bne_iff_ne, Bool.not_eq_true', decide_eq_false_iff_not, and_true, true_and]; omega))]
  by_cases h5 : rl = 1
  · rw [cf (by (rw [Bool.eq_false_iff]; simp only [ne_eq, Bool.and_eq_true, Bool.or_eq_true, decide_eq_true_eq, beq_iff_eq, bne_iff_ne, Bool.not_eq_true', decide_eq_false_iff_not, and_true, true_and]; omega))]; exact key (.inr (.inl h5))
  rw [ct (by (simp only [ne_eq, Bool.and_eq_true, Bool.or_eq_true, decide_eq_true_eq, beq_iff_eq, bne_iff_ne, Bool.not_eq_true', decide_eq_false_iff_not, and_true, true_and]; omega))]
  by_cases h6 : rl = 2
  · rw [cf (by (rw [Bool.eq_false_iff]; simp only [ne_eq, Bool.and_eq_true, Bool.or_eq_true, decide_eq_true_eq, beq_iff_eq, bne_iff_ne, Bool.not_eq_true', decide_eq_false_iff_not, and_true, true_and]; omega))]; exact key (.inr (.inr h6))
  rw [ct (by (simp only [ne_eq, Bool.and_eq_true, Bool.or_eq_true, decide_eq_true_eq, beq_iff_eq, bne_iff_ne, Bool.not_eq_true', decide_eq_false_iff_not, and_true, true_and]; omega))]
  unfold chk
  rw [if_neg (show ¬ ¬ okN nd ns by simpa using h1), if_neg (show ¬ (tm < 0 ∨ tm > 1099511627776) by omega), if_pos ⟨h4, h5, h6⟩]
theorem trm_succ {L : Lg} {j : Nat} (h : j < L.length) : trm L (j + 1) = L[j].1 := by
  unfold trm
  rw [if_neg (by omega), Nat.add_sub_cancel, getD_at _ h]
theorem lchk_loop {b : Bal} {cm : Int} {L : Lg} {mt : List Int} (hL : L.length ≤ 5000) : ∀ (d j n : Nat), d + j = L.length → d < n →
    loopN st63_0 n ((L, (L.length : Int), (j : Int)), b, cm, L, mt) = some (chkO ((), b, cm, L, mt) (lchk b.2.2.1 (trm L j) (L.drop j)))
  | 0, j, n + 1, hk, hn => by
    obtain ⟨b1, b2, b3, b4, b5, b6, b7⟩ := b
    have : L.drop j = [] := List.drop_eq_nil_of_le (by omega)
    rw [loopN_s]; dsimp only [st63_0]
    rw [cf (decide_eq_false (by omega)), this]
    rfl
  | d + 1, j, n + 1, hk, hn => by
    have ih := lchk_loop (b := b) (cm := cm) (mt := mt) hL d (j + 1) n (by omega) (by omega)
    obtain ⟨b1, b2, b3, b4, b5, b6, b7⟩ := b
    have hj : j < L.length := by omega
    rw [loopN_s]; dsimp only [st63_0]
    rw [ct (decide_eq_true (by omega)), ct (in_rng (by omega) (by omega)), Int.toNat_natCast, getD_at _ hj, List.drop_eq_getElem_cons hj, wrap_in (n := (j : Int) + 1) (by omega), show ((j : Int) + 1) = ((j + 1 : Nat) : Int) by omega, ih, trm_succ hj]
    have e0 : lchk b3 (trm L j) (L[j] :: L.drop (j + 1)) = if L[j].1 < 1 ∨ L[j].1 > b3 then 1 else if L[j].1 < trm L j then 22 else if L[j].2.length > 65536 then 5 else lchk b3 L[j].1 (L.drop (j + 1)) := rfl
    dsimp only
    rw [e0]
    by_cases h1 : L[j].1 < 1
    · rw [ct (decide_eq_true h1), if_pos (.inl h1)]; rfl
    rw [cf (decide_eq_false h1)]
    by_cases h2 : L[j].1 > b3
    · rw [ct (decide_eq_true h2), if_pos (.inr h2)]; rfl
    rw [cf (decide_eq_false h2), if_neg (show ¬ (L[j].1 < 1 ∨ L[j].1 > b3) by omega)]
    cases j with
    | zero =>
      have : trm L 0 = 0 := rfl
      rw [this, if_neg (show ¬ (L[0].1 < 0) by omega), cf (by simp)]
      by_cases h4 : L[0].2.length > 65536
      · rw [ct (decide_eq_true (by omega)), if_pos h4]; rfl
      · rw [cf (decide_eq_false (by omega)), if_neg h4]
    | succ i =>
      have hi : i < L.length := by omega
      rw [ct (decide_eq_true (by omega)), wrap_in (n := ((i + 1 : Nat) : Int) - 1) (by omega), show ((i + 1 : Nat) : Int) - 1 = (i : Int) by omega, ct (in_rng (by omega) (by omega)), Int.toNat_natCast, getD_at _ hi, trm_succ hi]
      by_cases h3 : L[i + 1].1 < L[i].1
      · rw [ct (decide_eq_true h3), if_pos h3]; rfl
      rw [cf (decide_eq_false h3), if_neg h3]
      by_cases h4 : L[i + 1].2.length > 65536
      · rw [ct (decide_eq_true (by omega)), if_pos h4]; rfl
      · rw [cf (decide_eq_false (by omega)), if_neg h4]
/-- The first error of the commands and of the mark. -/
def logE (r : Rep) : Int := if r.2.2.1.length > 4096 then 5 else if lchk r.1.2.2.1 0 r.2.2.1 ≠ 0 then lchk r.1.2.2.1 0 r.2.2.1 else if r.2.1 < 0 ∨ r.2.1 > (r.2.2.1.length : Int) then 1 else 0
theorem g63_eq {nd ns tm rl vd ld cm : Int} {vs : List Int} {L : Lg} {mt : List Int} (hL : L.length ≤ 5000) : g63 nd ns tm rl vd ld vs cm L mt = some (logE ((nd, ns, tm, rl, vd, ld, vs), cm, L, mt)) := by
  unfold g63 logE
  dsimp only
  by_cases h1 : L.length > 4096
  · rw [ct (decide_eq_true (by omega)), if_pos h1]
  rw [cf (decide_eq_false (by omega)), if_neg h1]
  have h := lchk_loop (b := (nd, ns, tm, rl, vd, ld, vs)) (cm := cm) (mt := mt) hL L.length 0 fuel (by omega) (by rw [fuel_eq]; omega)
  have h' : h63_0 ((L, (L.length : Int), 0), (nd, ns, tm, rl, vd, ld, vs), cm, L, mt) = _ := h
  rw [h', List.drop_zero, show trm L 0 = 0 from rfl]
  dsimp only
  by_cases h2 : lchk tm 0 L = 0
  · rw [if_neg (show ¬ (lchk tm 0 L ≠ 0) by simpa using h2), h2, chkO0]
    simp only [Option.bind_some]
    by_cases h3 : cm < 0
    · rw [ct (decide_eq_true h3), if_pos (.inl h3)]
    rw [cf (decide_eq_false h3)]
    by_cases h4 : cm > (L.length : Int)
    · rw [ct (decide_eq_true h4), if_pos (.inr h4)]
    rw [cf (decide_eq_false h4), if_neg (by omega)]
  · rw [chkO1 h2, if_pos (show lchk tm 0 L ≠ 0 from h2)]
    rfl
theorem mchk_loop {b : Bal} {cm : Int} {L : Lg} {mt : List Int} (hl : mt.length ≤ 5000) : ∀ (d j n : Nat), d + j = mt.length → d < n →
    loopN st30_0 n ((mt, (mt.length : Int), (j : Int)), b, cm, L, mt) = some (chkO ((), b, cm, L, mt) (mchk L.length (mt.drop j)))
  | 0, j, n + 1, hk, hn => by
    obtain ⟨b1, b2, b3, b4, b5, b6, b7⟩ := b
    have : mt.drop j = [] := List.drop_eq_nil_of_le (by omega)
    rw [loopN_s]; dsimp only [st30_0]
    rw [cf (decide_eq_false (by omega)), this]
    rfl
  | d + 1, j, n + 1, hk, hn => by
    have ih := mchk_loop (b := b) (cm := cm) (L := L) hl d (j + 1) n (by omega) (by omega)
    obtain ⟨b1, b2, b3, b4, b5, b6, b7⟩ := b
    have hj : j < mt.length := by omega
    rw [loopN_s]; dsimp only [st30_0]
    rw [ct (decide_eq_true (by omega)), ct (in_rng (by omega) (by omega)), Int.toNat_natCast, getD_at _ hj, List.drop_eq_getElem_cons hj, wrap_in (n := (j : Int) + 1) (by omega), show ((j : Int) + 1) = ((j + 1 : Nat) : Int) by omega, ih]
    have e0 : mchk (L.length : Int) (mt[j] :: mt.drop (j + 1)) = if mt[j] < 0 ∨ mt[j] > (L.length : Int) then 1 else mchk L.length (mt.drop (j + 1)) := rfl
    rw [e0]
    by_cases h1 : mt[j] < 0
    · rw [ct (decide_eq_true h1), if_pos (.inl h1)]; rfl
    rw [cf (decide_eq_false h1)]
    by_cases h2 : mt[j] > (L.length : Int)
    · rw [ct (decide_eq_true h2), if_pos (.inr h2)]; rfl
    rw [cf (decide_eq_false h2), if_neg (show ¬ (mt[j] < 0 ∨ mt[j] > (L.length : Int)) by omega)]
/-- The first error of Match. -/
def matE (r : Rep) : Int := if (r.2.2.2.length : Int) ≠ wantM r.1 then 9
  else if mchk r.2.2.1.length r.2.2.2 ≠ 0 then mchk r.2.2.1.length r.2.2.2
  else if r.1.2.2.2.1 = 2 ∧ r.2.2.2.getD r.1.1.toNat 0 ≠ (r.2.2.1.length : Int) then 9 else 0
theorem chkR_eq (r : Rep) : chkR r = if chk r.1.1 r.1.2.1 r.1.2.2.1 r.1.2.2.2.1 r.1.2.2.2.2.1 r.1.2.2.2.2.2.1 r.1.2.2.2.2.2.2 ≠ 0 then chk r.1.1 r.1.2.1 r.1.2.2.1 r.1.2.2.2.1 r.1.2.2.2.2.1 r.1.2.2.2.2.2.1 r.1.2.2.2.2.2.2 else if logE r ≠ 0 then logE r else matE r := by
  unfold chkR logE matE
  by_cases h1 : chk r.1.1 r.1.2.1 r.1.2.2.1 r.1.2.2.2.1 r.1.2.2.2.2.1 r.1.2.2.2.2.2.1 r.1.2.2.2.2.2.2 ≠ 0
  · rw [if_pos h1, if_pos h1]
  rw [if_neg h1, if_neg h1]
  by_cases h2 : r.2.2.1.length > 4096
  · rw [if_pos h2, if_pos h2, if_pos (show (5 : Int) ≠ 0 by decide)]
  rw [if_neg h2, if_neg h2]
  by_cases h3 : lchk r.1.2.2.1 0 r.2.2.1 ≠ 0
  · rw [if_pos h3, if_pos h3, if_pos h3]
  rw [if_neg h3, if_neg h3]
  by_cases h4 : r.2.1 < 0 ∨ r.2.1 > (r.2.2.1.length : Int)
  · rw [if_pos h4, if_pos h4, if_pos (show (1 : Int) ≠ 0 by decide)]
  rw [if_neg h4, if_neg h4, if_neg (show ¬ ((0 : Int) ≠ 0) by decide)]
theorem g30_eq {nd ns tm rl vd ld cm : Int} {vs : List Int} {L : Lg} {mt : List Int} (hv : vs.length ≤ 100000) (hL : L.length ≤ 5000) (hm : mt.length ≤ 5000) : g30 nd ns tm rl vd ld vs cm L mt = some (chkR ((nd, ns, tm, rl, vd, ld, vs), cm, L, mt)) := by
  unfold g30
  rw [g62_eq hv, g63_eq hL, chkR_eq]
  dsimp only
  unfold g32
  simp only [Option.bind_some]
  by_cases h1 : chk nd ns tm rl vd ld vs = 0
  rotate_left
  · rw [ct (by simpa using h1), if_pos h1]
  rw [cf (by simpa using h1), if_neg (show ¬ (chk nd ns tm rl vd ld vs ≠ 0) by simpa using h1)]
  obtain ⟨n1, _⟩ := chk_iff.1 h1
  unfold okN at n1
  generalize logE ((nd, ns, tm, rl, vd, ld, vs), cm, L, mt) = z
  by_cases h2 : z = 0
  rotate_left
  · rw [ct (by simpa using h2), if_pos h2]
  rw [cf (by simpa using h2), if_neg (show ¬ (z ≠ 0) by simpa using h2)]
  have h := mchk_loop (b := (nd, ns, tm, rl, vd, ld, vs)) (cm := cm) (L := L) hm mt.length 0 fuel (by omega) (by rw [fuel_eq]; omega)
  have h' : h30_0 ((mt, (mt.length : Int), 0), (nd, ns, tm, rl, vd, ld, vs), cm, L, mt) = _ := h
  rw [h', List.drop_zero]
  unfold matE wantM
  dsimp only
  by_cases h3 : rl = 2
  · rw [ct (by simpa using h3)]
    simp only [if_pos h3]
    by_cases h4 : (mt.length : Int) = ns
    rotate_left
    · rw [ct (by simpa using h4), if_pos h4]
    rw [cf (by simpa using h4), if_neg (show ¬ ((mt.length : Int) ≠ ns) by simpa using h4)]
    by_cases h5 : mchk L.length mt = 0
    · rw [if_neg (show ¬ (mchk (L.length : Int) mt ≠ 0) by simpa using h5), h5, chkO0]
      simp only [Option.bind_some]
      rw [ct (by simpa using h3), ct (in_rng (by omega) (by omega))]
      by_cases h6 : mt.getD nd.toNat 0 = (L.length : Int)
      · rw [cf (by simpa using h6), if_neg (fun e => e.2 h6)]
      · rw [ct (by simpa using h6), if_pos ⟨h3, h6⟩]
    · rw [chkO1 h5, if_pos (show mchk (L.length : Int) mt ≠ 0 from h5)]
      rfl
  · rw [cf (by simpa using h3)]
    simp only [if_neg h3]
    by_cases h4 : (mt.length : Int) = 0
    rotate_left
    · rw [ct (by simpa using h4), if_pos h4]
    rw [cf (by simpa using h4), if_neg (show ¬ ((mt.length : Int) ≠ 0) by simpa using h4)]
    by_cases h5 : mchk L.length mt = 0
    · rw [if_neg (show ¬ (mchk (L.length : Int) mt ≠ 0) by simpa using h5), h5, chkO0]
      simp only [Option.bind_some]
      rw [cf (by simpa using h3), if_neg (fun e => h3 e.1)]
    · rw [chkO1 h5, if_pos (show mchk (L.length : Int) mt ≠ 0 from h5)]
      rfl
end Go.Proofs.YtfadalgikdffeaaGreat.EVT
/- Replicated logs: the reference's check; small ones. -/
set_option linter.unusedVariables false
set_option linter.unusedSimpArgs false
namespace Go.Proofs.YtfadalgikdffeaaGreat.EVT
open Go Go.EV

theorem g25_eq (a b c : Int) : g25 a b c = some (decide (b ≤ a) && decide (a ≤ c)) := by
  unfold g25; by_cases h : b ≤ a <;> simp [h]
theorem g26_eq {L : Lg} {a : Nat} (hL : L.length ≤ 5000) (h1 : a ≤ L.length) : g26 L (a : Int) = some (trm L a) := by
  unfold g26 trm
  by_cases h : a = 0
  · subst h; rfl
  · rw [cf (by (rw [Bool.eq_false_iff]; simp only [ne_eq, Bool.and_eq_true, Bool.or_eq_true, decide_eq_true_eq, beq_iff_eq, bne_iff_ne, Bool.not_eq_true', decide_eq_false_iff_not, and_true, true_and]; omega)), cf (by (rw [Bool.eq_false_iff]; simp only [ne_eq, Bool.and_eq_true, Bool.or_eq_true, decide_eq_true_eq, beq_iff_eq, bne_iff_ne, Bool.not_eq_true', decide_eq_false_iff_not, and_true, true_and]; omega)), wrap_in (by omega), ct (in_rng (by omega) (by omega)), if_neg h, show ((a : Int) - 1).toNat = a - 1 by omega]
theorem lchk_loopR {b : Bal} {cm : Int} {L : Lg} {mt : List Int} (hL : L.length ≤ 5000) : ∀ (d j n : Nat), d + j = L.length → d < n →
    loopN st6_0 n ((L, (L.length : Int), (j : Int)), b, cm, L, mt) = some (chkO ((), b, cm, L, mt) (lchk b.2.2.1 (trm L j) (L.drop j)))
  | 0, j, n + 1, hk, hn => by
    obtain ⟨b1, b2, b3, b4, b5, b6, b7⟩ := b
    have : L.drop j = [] := List.drop_eq_nil_of_le (by omega)
    rw [loopN_s]; dsimp only [st6_0]
    rw [cf (decide_eq_false (by omega)), this]
    rfl
  | d + 1, j, n + 1, hk, hn => by
    have ih := lchk_loopR (b := b) (cm := cm) (mt := mt) hL d (j + 1) n (by omega) (by omega)
    obtain ⟨b1, b2, b3, b4, b5, b6, b7⟩ := b
    have hj : j < L.length := by omega
    rw [loopN_s]; dsimp only [st6_0]
    rw [ct (decide_eq_true (by omega)), ct (in_rng (by omega) (by omega)), Int.toNat_natCast, getD_at _ hj, List.drop_eq_getElem_cons hj, wrap_in (n := (j : Int) + 1) (by omega), show ((j : Int) + 1) = ((j + 1 : Nat) : Int) by omega, ih, trm_succ hj, g25_eq, g26_eq hL (by omega)]
    simp only [Option.bind_some]
    have e0 : lchk b3 (trm L j) (L[j] :: L.drop (j + 1)) = if L[j].1 < 1 ∨ L[j].1 > b3 then 1 else if L[j].1 < trm L j then 22 else if L[j].2.length > 65536 then 5 else lchk b3 L[j].1 (L.drop (j + 1)) := rfl
    rw [e0]
    by_cases h1 : L[j].1 < 1 ∨ L[j].1 > b3
    · rw [ct (by simp; omega), if_pos h1]; rfl
    rw [cf (by simp; omega), if_neg h1]
    by_cases h3 : L[j].1 < trm L j
    · rw [ct (decide_eq_true h3), if_pos h3]; rfl
    rw [cf (decide_eq_false h3), if_neg h3]
    by_cases h4 : L[j].2.length > 65536
    · rw [ct (decide_eq_true (by omega)), if_pos h4]; rfl
    · rw [cf (decide_eq_false (by omega)), if_neg h4]
theorem mchk_loopR {b : Bal} {cm : Int} {L : Lg} {mt : List Int} (hl : mt.length ≤ 5000) : ∀ (d j n : Nat), d + j = mt.length → d < n →
    loopN st6_1 n ((mt, (mt.length : Int), (j : Int)), b, cm, L, mt) = some (chkO ((), b, cm, L, mt) (mchk L.length (mt.drop j)))
  | 0, j, n + 1, hk, hn => by
    obtain ⟨b1, b2, b3, b4, b5, b6, b7⟩ := b
    have : mt.drop j = [] := List.drop_eq_nil_of_le (by omega)
    rw [loopN_s]; dsimp only [st6_1]
    rw [cf (decide_eq_false (by omega)), this]
    rfl
  | d + 1, j, n + 1, hk, hn => by
    have ih := mchk_loopR (b := b) (cm := cm) (L := L) hl d (j + 1) n (by omega) (by omega)
    obtain ⟨b1, b2, b3, b4, b5, b6, b7⟩ := b
    have hj : j < mt.length := by omega
    rw [loopN_s]; dsimp only [st6_1]
    rw [ct (decide_eq_true (by omega)), ct (in_rng (by omega) (by omega)), Int.toNat_natCast, getD_at _ hj, List.drop_eq_getElem_cons hj, wrap_in (n := (j : Int) + 1) (by omega), show ((j : Int) + 1) = ((j + 1 : Nat) : Int) by omega, ih, g25_eq]
    simp only [Option.bind_some]
    have e0 : mchk (L.length : Int) (mt[j] :: mt.drop (j + 1)) = if mt[j] < 0 ∨ mt[j] > (L.length : Int) then 1 else mchk L.length (mt.drop (j + 1)) := rfl
    rw [e0]
    by_cases h1 : mt[j] < 0 ∨ mt[j] > (L.length : Int)
    · rw [ct (by simp; omega), if_pos h1]; rfl
    · rw [cf (by simp; omega), if_neg h1]
theorem g6_eq {nd ns tm rl vd ld cm : Int} {vs : List Int} {L : Lg} {mt : List Int} (hb : -9223372036854775808 ≤ ns ∧ ns ≤ 9223372036854775807) (hv : vs.length ≤ 100000) (hL : L.length ≤ 5000) (hm : mt.length ≤ 5000) : g6 nd ns tm rl vd ld vs cm L mt = some (chkR ((nd, ns, tm, rl, vd, ld, vs), cm, L, mt)) := by
  have hml : maxLen = 9223372036854775807 := rfl
  unfold g6
  rw [g24_eq hb (by omega), chkR_eq]
  dsimp only
  unfold g27
  simp only [Option.bind_some]
  by_cases h1 : chk nd ns tm rl vd ld vs = 0
  rotate_left
  · rw [ct (by simpa using h1), if_pos h1]
  rw [cf (by simpa using h1), if_neg (show ¬ (chk nd ns tm rl vd ld vs ≠ 0) by simpa using h1)]
  obtain ⟨n1, _⟩ := chk_iff.1 h1
  unfold okN at n1
  unfold logE
  dsimp only
  by_cases h2 : L.length > 4096
  · rw [ct (decide_eq_true (by omega)), if_pos h2]; rfl
  rw [cf (decide_eq_false (by omega)), if_neg h2]
  have hl := lchk_loopR (b := (nd, ns, tm, rl, vd, ld, vs)) (cm := cm) (mt := mt) hL L.length 0 fuel (by omega) (by rw [fuel_eq]; omega)
  have hl' : h6_0 ((L, (L.length : Int), 0), (nd, ns, tm, rl, vd, ld, vs), cm, L, mt) = _ := hl
  rw [hl', List.drop_zero, show trm L 0 = 0 from rfl]
  dsimp only
  by_cases h3 : lchk tm 0 L = 0
  rotate_left
  · rw [chkO1 h3, if_pos (show lchk tm 0 L ≠ 0 from h3), if_pos (show lchk tm 0 L ≠ 0 from h3)]
    rfl
  rw [if_neg (show ¬ (lchk tm 0 L ≠ 0) by simpa using h3), h3, chkO0]
  simp only [Option.bind_some]
  rw [g25_eq]
  simp only [Option.bind_some]
  by_cases h4 : cm < 0 ∨ cm > (L.length : Int)
  · rw [ct (by simp; omega), if_pos h4]; rfl
  rw [cf (by simp; omega), if_neg h4, if_neg (show ¬ ((0 : Int) ≠ 0) by decide)]
  have h := mchk_loopR (b := (nd, ns, tm, rl, vd, ld, vs)) (cm := cm) (L := L) hm mt.length 0 fuel (by omega) (by rw [fuel_eq]; omega)
  have h' : h6_1 ((mt, (mt.length : Int), 0), (nd, ns, tm, rl, vd, ld, vs), cm, L, mt) = _ := h
  unfold matE wantM
  dsimp only
  by_cases h5 : rl = 2
  · rw [cf (by simpa using h5), ct (by simpa using h5)]
    simp only [if_pos h5]
    by_cases h6 : (mt.length : Int) = ns
    rotate_left
    · rw [ct (by simpa using h6), if_pos h6]
    rw [cf (by simpa using h6), if_neg (show ¬ ((mt.length : Int) ≠ ns) by simpa using h6), h', List.drop_zero]
    by_cases h7 : mchk L.length mt = 0
    · rw [if_neg (show ¬ (mchk (L.length : Int) mt ≠ 0) by simpa using h7), h7, chkO0]
      simp only [Option.bind_some]
      rw [ct (by simpa using h5), ct (in_rng (by omega) (by omega))]
      by_cases h8 : mt.getD nd.toNat 0 = (L.length : Int)
      · rw [cf (by simpa using h8), if_neg (fun e => e.2 h8)]
      · rw [ct (by simpa using h8), if_pos ⟨h5, h8⟩]
    · rw [chkO1 h7, if_pos (show mchk (L.length : Int) mt ≠ 0 from h7)]
      rfl
  · rw [ct (by simpa using h5)]
    simp only [if_neg h5]
    by_cases h6 : (mt.length : Int) = 0
    rotate_left
    · rw [ct (decide_eq_true (by omega)), if_pos h6]
    rw [cf (decide_eq_false (by omega)), cf (by simpa using h5), if_neg (show ¬ ((mt.length : Int) ≠ 0) by simpa using h6), h', List.drop_zero]
    by_cases h7 : mchk L.length mt = 0
    · rw [if_neg (show ¬ (mchk (L.length : Int) mt ≠ 0) by simpa using h7), h7, chkO0]
      simp only [Option.bind_some]
      rw [cf (by simpa using h5), if_neg (fun e => h5 e.1)]
    · rw [chkO1 h7, if_pos (show mchk (L.length : Int) mt ≠ 0 from h7)]
      rfl
theorem brief_loop (es : Lg) (he : es.length ≤ 5000) : ∀ (d j n : Nat), d + j = es.length → d < n → loopN st23_0 n ((es, (es.length : Int), (j : Int)), ()) = some (.inl ((), ())) ∨ loopN st23_0 n ((es, (es.length : Int), (j : Int)), ()) = some (.inr false)
  | 0, j, n + 1, hk, hn => by
    rw [loopN_s]; dsimp only [st23_0]
    rw [cf (decide_eq_false (by omega))]
    exact .inl rfl
  | d + 1, j, n + 1, hk, hn => by
    have ih := brief_loop es he d (j + 1) n (by omega) (by omega)
    rw [loopN_s]; dsimp only [st23_0]
    rw [ct (decide_eq_true (by omega)), ct (in_rng (by omega) (by omega)), Int.toNat_natCast, wrap_in (n := (j : Int) + 1) (by omega), show ((j : Int) + 1) = ((j + 1 : Nat) : Int) by omega]
    by_cases h : ((List.length (es.getD j (0, [])).2 : Nat) : Int) > 100
    · rw [ct (decide_eq_true h)]; exact .inr rfl
    · rw [cf (decide_eq_false h)]; exact ih
theorem g23_some (es : Lg) (he : es.length ≤ 5000) : ∃ b, g23 es = some b := by
  unfold g23
  rcases brief_loop es he es.length 0 fuel (by omega) (by rw [fuel_eq]; omega) with h | h
  · have h' : h23_0 ((es, (es.length : Int), 0), ()) = _ := h
    rw [h']; exact ⟨_, rfl⟩
  · have h' : h23_0 ((es, (es.length : Int), 0), ()) = _ := h
    rw [h']; exact ⟨_, rfl⟩
theorem g4_some (nd ns tm rl vd ld cm : Int) (vs : List Int) (L : Lg) (mt : List Int) : ∃ b, g4 nd ns tm rl vd ld vs cm L mt = some b ∧ (b = true → L.length ≤ 40 ∧ mt.length ≤ 20 ∧ vs.length ≤ 20) := by
  unfold g4
  by_cases h1 : (L.length : Int) ≤ 40
  · rw [ct (decide_eq_true h1)]
    by_cases h2 : (mt.length : Int) ≤ 20
    · rw [ct (decide_eq_true h2)]
      by_cases h3 : (vs.length : Int) ≤ 20
      · rw [ct (decide_eq_true h3)]
        obtain ⟨b, hb⟩ := g23_some L (by omega)
        rw [hb]
        exact ⟨b, rfl, fun _ => by omega⟩
      · rw [cf (decide_eq_false h3)]; exact ⟨false, rfl, fun e => by cases e⟩
    · rw [cf (decide_eq_false h2)]; exact ⟨false, rfl, fun e => by cases e⟩
  · rw [cf (decide_eq_false h1)]; exact ⟨false, rfl, fun e => by cases e⟩
abbrev Op41 := Int × List UInt8 × Let
theorem light_loop (A : List Op41) (hA : A.length ≤ 9223372036854775807) : ∀ (d j n : Nat), d + j = A.length → d < n → (∀ o ∈ A.take j, o.2.2.2.2.2.2.2.2.2.2.length ≤ 40) →
    ∃ q, loopN st5_0 n ((A, A, (A.length : Int), (j : Int)), ()) = some q ∧ ((q = .inl (A, ()) ∧ ∀ o ∈ A, o.2.2.2.2.2.2.2.2.2.2.length ≤ 40) ∨ q = .inr false)
  | 0, j, n + 1, hk, hn, h0 => by
    rw [loopN_s]; dsimp only [st5_0]
    rw [cf (decide_eq_false (by omega))]
    rw [List.take_of_length_le (by omega)] at h0
    exact ⟨_, rfl, .inl ⟨rfl, h0⟩⟩
  | d + 1, j, n + 1, hk, hn, h0 => by
    have hj : j < A.length := by omega
    have ih := fun h => light_loop A hA d (j + 1) n (by omega) (by omega) h
    rw [loopN_s]; generalize loopN st5_0 n = LL at ih ⊢; dsimp only [st5_0]
    rw [ct (decide_eq_true (by omega)), ct (in_rng (by omega) (by omega)), Int.toNat_natCast, wrap_in (n := (j : Int) + 1) (by omega), show ((j : Int) + 1) = ((j + 1 : Nat) : Int) by omega, getD_at _ hj]
    by_cases h1 : ((List.length (A[j]).2.1 : Nat) : Int) > 100
    · rw [ct (decide_eq_true h1)]; exact ⟨_, rfl, .inr rfl⟩
    rw [cf (decide_eq_false h1)]
    by_cases h2 : ((List.length (A[j]).2.2.2.2.2.2.2.2.2.2 : Nat) : Int) > 40
    · rw [ct (decide_eq_true h2)]; exact ⟨_, rfl, .inr rfl⟩
    rw [cf (decide_eq_false h2)]
    obtain ⟨b, hb⟩ := g23_some (A[j]).2.2.2.2.2.2.2.2.2.2 (by omega)
    rw [hb]
    simp only [Option.bind_some]
    cases b with
    | false => exact ⟨_, rfl, .inr rfl⟩
    | true =>
      rw [cf (b := !true) rfl]
      refine ih fun o ho => ?_
      rw [List.take_add_one, List.getElem?_eq_getElem hj] at ho
      rcases List.mem_append.1 ho with ho | ho
      · exact h0 o ho
      · simp only [Option.toList_some, List.mem_singleton] at ho
        subst ho
        omega
theorem g5_some (A : List Op41) (hA : A.length ≤ 9223372036854775807) : ∃ b, g5 A = some b ∧ (b = true → A.length ≤ 40 ∧ ∀ o ∈ A, o.2.2.2.2.2.2.2.2.2.2.length ≤ 40) := by
  unfold g5
  obtain ⟨q, h1, h2⟩ := light_loop A hA A.length 0 fuel (by omega) (by rw [fuel_eq]; omega) (by simp)
  have h' : h5_0 ((A, A, (A.length : Int), 0), ()) = _ := h1
  rw [h']
  rcases h2 with ⟨rfl, h3⟩ | rfl
  · exact ⟨_, rfl, fun e => ⟨by have := of_decide_eq_true e; dsimp only at this; omega, h3⟩⟩
  · exact ⟨_, rfl, fun e => by cases e⟩
theorem g7_true : g7 = some true := by kernel_rfl
end Go.Proofs.YtfadalgikdffeaaGreat.EVT
