/- Chapter 40: the calls keep a ballot as it has to be. -/
import Derived.Test.YtehjeifbgegabaaVP2
import Derived.Test.YtehjeifbgegabaaUB
set_option linter.unusedVariables false
set_option linter.unusedSimpArgs false
namespace Go.Proofs.Ytehjeifbgegabaa.EVT
open Go Go.EV
abbrev Bal := Int × Int × Int × Int × Int × Int × List Int
abbrev Let := Int × Int × Int × Int × Int × Int × Int × Bool × List (Int × List UInt8)
def Max : Int := 1099511627776
/-- A ballot that has to be so. -/
def okB (b : Bal) : Prop := chk b.1 b.2.1 b.2.2.1 b.2.2.2.1 b.2.2.2.2.1 b.2.2.2.2.2.1 b.2.2.2.2.2.2 = 0
theorem okB_len {b : Bal} (h : okB b) : b.2.2.2.2.2.2.length ≤ 7 := by
  obtain ⟨h1, _, _, _, h5, _⟩ := chk_iff.1 h
  exact votes_len (by unfold okN at h1; omega) h5
theorem g24_eq {nd ns tm rl vd ld : Int} {vs : List Int} (hl : vs.length ≤ 7) : g24 nd ns tm rl vd ld vs = some (nd, ns, tm, rl, vd, ld, vs) := by
  have : decide (List.length vs ≤ 2147483647) = true := by simp; omega
  show Option.bind (cond (decide (List.length vs ≤ 2147483647)) (some vs) none) _ = _
  rw [this]
  rfl
theorem g25_eq (nd ns tm rl vd ld : Int) (vs : List Int) (t : Int) : g25 nd ns tm rl vd ld vs t = some (nd, ns, t, 0, -1, -1, []) := rfl
theorem g26_eq (nd ns tm rl vd ld : Int) (vs : List Int) : g26 nd ns tm rl vd ld vs = some (nd, ns, tm, 2, vd, nd, []) := rfl
def obs (b : Bal) (t : Int) : Bal := if t ≤ b.2.2.1 ∨ t > Max then b else (b.1, b.2.1, t, 0, -1, -1, [])
theorem g15_eq {nd ns tm rl vd ld : Int} {vs : List Int} (t : Int) (hl : vs.length ≤ 7) : g15 nd ns tm rl vd ld vs t = some (obs (nd, ns, tm, rl, vd, ld, vs) t) := by
  unfold g15 obs Max
  simp only [g24_eq hl, g25_eq, Option.bind_some]
  by_cases h1 : t ≤ tm
  · simp [h1]
  · by_cases h2 : t > 1099511627776 <;> simp [h1, h2]
def con (nd ns fr tu te : Int) : Bool := tu == nd && fr != nd && decide (fr ≥ 0) && decide (fr < ns) && decide (te ≥ 1) && decide (te ≤ Max)
theorem g27_eq (nd ns tm rl vd ld : Int) (vs : List Int) (kd fr tu te ix pr cm : Int) (ye : Bool) (es : List (Int × List UInt8)) : g27 nd ns tm rl vd ld vs kd fr tu te ix pr cm ye es = some (con nd ns fr tu te) := by
  unfold g27 con Max
  cases tu == nd <;> cases fr != nd <;> cases decide (fr ≥ 0) <;> cases decide (fr < ns) <;> cases decide (te ≥ 1) <;> rfl
theorem con_iff {nd ns fr tu te : Int} : con nd ns fr tu te = true ↔ tu = nd ∧ fr ≠ nd ∧ 0 ≤ fr ∧ fr < ns ∧ 1 ≤ te ∧ te ≤ Max := by
  unfold con; simp [and_assoc]
/-- What is kept. -/
def Keeps1 (b x : Bal) : Prop := okB x ∧ x.1 = b.1 ∧ x.2.1 = b.2.1 ∧ b.2.2.1 ≤ x.2.2.1 ∧ (x.2.2.1 = b.2.2.1 → x.2.2.2.2.1 = b.2.2.2.2.1 ∨ b.2.2.2.2.1 = -1)
theorem keeps_refl {b : Bal} (h : okB b) : Keeps1 b b := ⟨h, rfl, rfl, Int.le_refl _, fun _ => .inl rfl⟩
theorem obs_keeps {b : Bal} (h : okB b) (t : Int) : Keeps1 b (obs b t) := by
  unfold obs
  split
  · exact keeps_refl h
  · rename_i hh
    obtain ⟨h1, h2, _⟩ := chk_iff.1 h
    unfold Max at hh
    have h3 := h1
    unfold okN at h3
    exact ⟨(show chk b.1 b.2.1 t 0 (-1) (-1) [] = 0 from chk_follow h1 (by omega) (-1) (by omega)), rfl, rfl, by show _ ≤ t; omega, fun e => by exfalso; have : t = b.2.2.1 := e; omega⟩
/-! ### Campaign -/
def camp (b : Bal) : Bal := if b.2.2.1 ≥ Max then b else if b.2.1 = 1 then (b.1, b.2.1, b.2.2.1 + 1, 2, b.1, b.1, []) else (b.1, b.2.1, b.2.2.1 + 1, 1, b.1, -1, [b.1])
theorem loop13 {ix pr ns : Int} (hns : 1 ≤ ns ∧ ns ≤ 7) {r8 : Int × Int × Int × Int × Int × Int × Unit} {r6 : Bal} {nd a1 a2 a3 a4 a5 : Int} {vs r31 : List Int} : ∀ (k j n : Nat) (l : List Let), (k : Int) + j = ns → k < n → l.length ≤ j →
    ∃ l', loopN st13_0 n ((ix, pr, ns, (j : Int)), l, r8, r6, (nd, a1, a2, a3, a4, a5, vs), r31) = some (.inl ((), l', r8, r6, r31))
  | 0, j, n + 1, l, hk, hn, hl => ⟨l, by simp [loopN, st13_0, show ¬ ((j : Int) < ns) by omega]⟩
  | k + 1, j, n + 1, l, hk, hn, hl => by
    have e1 : IntKind.i64.wrap ((j : Int) + 1) = ((j + 1 : Nat) : Int) := wrap_in (by omega)
    obtain ⟨b1, b2, b3, b4, b5, b6, ⟨⟩⟩ := r8
    obtain ⟨c1, c2, c3, c4, c5, c6, c7⟩ := r6
    have h1 : (j : Int) < ns := by omega
    simp only [loopN, st13_0, e1]
    by_cases hj : (j : Int) = nd
    · obtain ⟨l', h⟩ := loop13 hns (r8 := (b1, b2, b3, b4, b5, b6, ())) (r6 := (c1, c2, c3, c4, c5, c6, c7)) (nd := nd) (a1 := a1) (a2 := a2) (a3 := a3) (a4 := a4) (a5 := a5) (vs := vs) (r31 := r31) (ix := ix) (pr := pr) k (j + 1) n l (by omega) (by omega) (by omega)
      have hj' : ((j : Int) != nd) = false := by simpa using hj
      exact ⟨l', by simp only [h1, decide_true, cond_true, hj', cond_false]; exact h⟩
    · obtain ⟨l', h⟩ := loop13 hns (r8 := (b1, b2, b3, b4, b5, b6, ())) (r6 := (c1, c2, c3, c4, c5, c6, c7)) (nd := nd) (a1 := a1) (a2 := a2) (a3 := a3) (a4 := a4) (a5 := a5) (vs := vs) (r31 := r31) (ix := ix) (pr := pr) k (j + 1) n (l ++ [(1, nd, (j : Int), b3, ix, pr, 0, false, [])]) (by omega) (by omega) (by simp; omega)
      have h2 : l.length + 1 ≤ 2147483647 := by omega
      have hj' : ((j : Int) != nd) = true := by simpa using hj
      exact ⟨l', by simp only [h1, decide_true, cond_true, hj', h2]; exact h⟩
theorem g13_eq {nd ns tm rl vd ld : Int} {vs : List Int} (ix pr : Int) (h : okB (nd, ns, tm, rl, vd, ld, vs)) : ∃ l, g13 nd ns tm rl vd ld vs ix pr = some (camp (nd, ns, tm, rl, vd, ld, vs), l) := by
  have hl := okB_len h
  obtain ⟨h1, h2, _⟩ := chk_iff.1 h
  simp only [okN] at h1 h2
  unfold g13 camp Max
  simp only [g24_eq (show vs.length ≤ 7 from hl), g25_eq, g26_eq, Option.bind_some]
  have e1 : IntKind.i64.wrap (tm + 1) = tm + 1 := wrap_in (by omega)
  by_cases c1 : tm ≥ 1099511627776
  · exact ⟨[], by simp [c1]⟩
  · by_cases c2 : ns = 1
    · exact ⟨[], by simp [c1, c2, e1]⟩
    · obtain ⟨l', hh⟩ := loop13 (ix := ix) (pr := pr) (ns := ns) (by omega) (r8 := (nd, ns, tm + 1, 1, nd, -1, ())) (r6 := (0, 0, 0, 0, 0, 0, [])) (nd := nd) (a1 := ns) (a2 := tm) (a3 := rl) (a4 := vd) (a5 := ld) (vs := vs) (r31 := [nd]) ns.toNat 0 fuel [] (by omega) (by rw [fuel_eq]; omega) (by simp)
      have hh' : h13_0 ((ix, pr, ns, 0), [], (nd, ns, tm + 1, 1, nd, -1, ()), (0, 0, 0, 0, 0, 0, []), (nd, ns, tm, rl, vd, ld, vs), [nd]) = _ := hh
      refine ⟨l', ?_⟩
      have c2' : (ns == 1) = false := by simpa using c2
      rw [e1, hh']
      simp [c1, c2, c2']
theorem camp_keeps {b : Bal} (h : okB b) : Keeps1 b (camp b) := by
  unfold camp
  obtain ⟨h1, h2, _⟩ := chk_iff.1 h
  have h3 := h1
  unfold okN at h3
  split
  · exact keeps_refl h
  · rename_i hh
    unfold Max at hh
    split
    · exact ⟨(show chk b.1 b.2.1 (b.2.2.1 + 1) 2 b.1 b.1 [] = 0 from chk_leads h1 (by omega)), rfl, rfl, by show b.2.2.1 ≤ b.2.2.1 + 1; omega, fun e => by exfalso; have : b.2.2.1 + 1 = b.2.2.1 := e; omega⟩
    · rename_i hn
      exact ⟨(show chk b.1 b.2.1 (b.2.2.1 + 1) 1 b.1 (-1) [b.1] = 0 from chk_stands h1 hn (by omega)), rfl, rfl, by show b.2.2.1 ≤ b.2.2.1 + 1; omega, fun e => by exfalso; have : b.2.2.1 + 1 = b.2.2.1 := e; omega⟩
/-! ### Answer -/
def vote1 (b : Bal) (fr : Int) : Bal := (b.1, b.2.1, b.2.2.1, b.2.2.2.1, fr, b.2.2.2.2.2)
def ans (b : Bal) (kd fr tu te lix lpr ix pr : Int) : Bal × Let :=
  if kd ≠ 1 ∨ con b.1 b.2.1 fr tu te = false then (b, 0, 0, 0, 0, 0, 0, 0, false, [])
  else
    let o := obs b te
    if yesA o.2.2.1 o.2.2.2.2.1 fr te lpr lix pr ix then (vote1 o fr, 2, b.1, fr, o.2.2.1, 0, 0, 0, true, [])
    else (o, 2, b.1, fr, o.2.2.1, 0, 0, 0, false, [])
theorem g14_eq {nd ns tm rl vd ld : Int} {vs : List Int} (kd fr tu te lix lpr cm : Int) (ye : Bool) (es : List (Int × List UInt8)) (ix pr : Int) (hl : vs.length ≤ 7) : g14 nd ns tm rl vd ld vs kd fr tu te lix lpr cm ye es ix pr = some (ans (nd, ns, tm, rl, vd, ld, vs) kd fr tu te lix lpr ix pr) := by
  unfold g14 ans
  simp only [g24_eq hl, g27_eq, g15_eq te hl, Option.bind_some]
  by_cases c1 : kd = 1
  · subst c1
    cases c2 : con nd ns fr tu te
    · simp
    · generalize obs (nd, ns, tm, rl, vd, ld, vs) te = o
      obtain ⟨o1, o2, o3, o4, o5, o6, o7⟩ := o
      simp only [yesA, newer, vote1]
      by_cases d1 : pr < lpr <;> by_cases d5 : lpr = pr <;> by_cases d2 : te = o3 <;> by_cases d3 : o5 = -1 <;> by_cases d4 : o5 = fr <;> by_cases d6 : ix ≤ lix <;> simp [d1, d2, d3, d4, d5, d6, cond_eq_ite]
  · have : (kd != 1) = true := by simpa using c1
    simp [c1, this]
theorem obs_tm {b : Bal} {t : Int} (h : okB b) (ht : 1 ≤ t ∧ t ≤ Max) (e : t = (obs b t).2.2.1) : 1 ≤ (obs b t).2.2.1 := by omega
theorem ans_keeps {b : Bal} (h : okB b) (kd fr tu te lix lpr ix pr : Int) : Keeps1 b (ans b kd fr tu te lix lpr ix pr).1 ∧ ((ans b kd fr tu te lix lpr ix pr).2.2.2.2.2.2.2.2.1 = true → (ans b kd fr tu te lix lpr ix pr).2.2.2.2.1 = (ans b kd fr tu te lix lpr ix pr).1.2.2.1 ∧ (ans b kd fr tu te lix lpr ix pr).1.2.2.2.2.1 = (ans b kd fr tu te lix lpr ix pr).2.2.2.1) := by
  unfold ans
  split
  · exact ⟨keeps_refl h, fun e => by cases e⟩
  · rename_i hh
    have hc : con b.1 b.2.1 fr tu te = true := by
      cases hcc : con b.1 b.2.1 fr tu te
      · exact (hh (.inr hcc)).elim
      · rfl
    have hk := obs_keeps h te
    obtain ⟨_, c2, c3, c4, c5, c6⟩ := con_iff.1 hc
    dsimp only
    split
    · rename_i hy
      simp only [yesA, Bool.and_eq_true, Bool.or_eq_true, beq_iff_eq] at hy
      obtain ⟨⟨y1, y2⟩, _⟩ := hy
      obtain ⟨k1, k2, k3, k4, k5⟩ := hk
      refine ⟨⟨?_, k2, k3, k4, fun e => ?_⟩, fun _ => ⟨rfl, rfl⟩⟩
      · show chk (obs b te).1 (obs b te).2.1 (obs b te).2.2.1 (obs b te).2.2.2.1 fr (obs b te).2.2.2.2.2.1 (obs b te).2.2.2.2.2.2 = 0
        rcases y2 with y2 | y2
        · have k1' := k1
          unfold okB at k1'
          rw [y2] at k1'
          exact chk_votes (fr := fr) k1' ⟨c3, show fr < (obs b te).2.1 by rw [k3]; exact c4⟩ (show 1 ≤ (obs b te).2.2.1 by omega)
        · have k1' := k1
          unfold okB at k1'
          rw [y2] at k1'
          exact k1'
      · have e' : (obs b te).2.2.1 = b.2.2.1 := e
        show fr = b.2.2.2.2.1 ∨ _
        rcases y2 with y2 | y2
        · rcases k5 e' with k5 | k5
          · right; rw [← k5, y2]
          · exact .inr k5
        · rcases k5 e' with k5 | k5
          · left; rw [← k5, y2]
          · exact .inr k5
    · exact ⟨hk, fun e => by cases e⟩
end Go.Proofs.Ytehjeifbgegabaa.EVT
