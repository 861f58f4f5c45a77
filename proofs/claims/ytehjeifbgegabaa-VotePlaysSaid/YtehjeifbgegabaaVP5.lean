/- Chapter 40: the law VoteKeeps, in plain words. -/
import Derived.Test.YtehjeifbgegabaaVP4
set_option linter.unusedVariables false
set_option linter.unusedSimpArgs false
set_option maxRecDepth 10000
namespace Go.Proofs.Ytehjeifbgegabaa.EVT
open Go Go.EV
theorem g7_true : g7 = some true := by kernel_rfl
theorem cnt_keeps {b : Bal} (h : okB b) (kd fr tu te : Int) (ye : Bool) : Keeps1 b (cnt b kd fr tu te ye) := by
  unfold cnt
  split
  · exact keeps_refl h
  · rename_i hh
    have hc : con b.1 b.2.1 fr tu te = true := by
      cases hcc : con b.1 b.2.1 fr tu te
      · exact (hh (.inr hcc)).elim
      · rfl
    have hk := obs_keeps h te
    obtain ⟨_, c2, c3, c4, c5, c6⟩ := con_iff.1 hc
    dsimp only
    split
    · exact hk
    · rename_i hd
      obtain ⟨k1, k2, k3, k4, k5⟩ := hk
      have e2 : (obs b te).2.2.2.1 = 1 := by
        by_cases e : (obs b te).2.2.2.1 = 1
        · exact e
        · exact (hd (.inr (.inl e))).elim
      have k1' := k1
      unfold okB at k1'
      rw [e2] at k1'
      obtain ⟨a1, a2⟩ := chk_counted k1' ⟨c3, show fr < (obs b te).2.1 by rw [k3]; exact c4⟩
      split
      · rename_i hq
        exact ⟨a1 hq, k2, k3, k4, k5⟩
      · rename_i hq
        refine ⟨?_, k2, k3, k4, k5⟩
        show chk (obs b te).1 (obs b te).2.1 (obs b te).2.2.1 (obs b te).2.2.2.1 (obs b te).2.2.2.2.1 (obs b te).2.2.2.2.2.1 (cntVs fr (obs b te).2.2.2.2.2.2) = 0
        rw [e2]
        exact a2 (by simpa using hq)
theorem chk_eq {nd ns tm rl vd ld : Int} {vs : List Int} : okB (nd, ns, tm, rl, vd, ld, vs) ↔ chk nd ns tm rl vd ld vs = 0 := Iff.rfl
theorem g12_ok {b x : Bal} (hb : okB b) (h : Keeps1 b x) : g12 x.1 x.2.1 x.2.2.1 x.2.2.2.1 x.2.2.2.2.1 x.2.2.2.2.2.1 x.2.2.2.2.2.2 = some 0 := by
  obtain ⟨h1, _, _, _, h5, _⟩ := chk_iff.1 h.1
  have hl := okB_len h.1
  have hm : maxLen = 9223372036854775807 := rfl
  rw [g12_eq (by unfold okN at h1; omega) (by omega)]
  exact congrArg some h.1
theorem loop4 {b : Bal} {l7 : Bal} {l8 : Let} (hb : okB b) (l : List Bal) (hl : l.length = 4) (hk : ∀ x ∈ l, Keeps1 b x) : ∀ (k j n : Nat), k + j = 4 → k < n → loopN st4_0 n (((4 : Int), (j : Int)), l, l8, l7, b) = some (.inl ((), l8, l7))
  | 0, j, n + 1, hj, hn => by
    obtain rfl : j = 4 := by omega
    obtain ⟨a1, a2, a3, a4, a5, a6, a7, a8, a9⟩ := l8
    obtain ⟨c1, c2, c3, c4, c5, c6, c7⟩ := l7
    obtain ⟨d1, d2, d3, d4, d5, d6, d7⟩ := b
    simp [loopN, st4_0]
  | k + 1, j, n + 1, hj, hn => by
    have ih := loop4 (l7 := l7) (l8 := l8) hb l hl hk k (j + 1) n (by omega) (by omega)
    have hj' : j < l.length := by omega
    have hx := hk l[j] (List.getElem_mem hj')
    have h12 := g12_ok hb hx
    obtain ⟨a1, a2, a3, a4, a5, a6, a7, a8, a9⟩ := l8
    obtain ⟨c1, c2, c3, c4, c5, c6, c7⟩ := l7
    obtain ⟨d1, d2, d3, d4, d5, d6, d7⟩ := b
    obtain ⟨k1, k2, k3, k4, k5⟩ := hx
    simp only [loopN, st4_0]
    have e1 : IntKind.i64.wrap ((j : Int) + 1) = ((j + 1 : Nat) : Int) := wrap_in (by omega)
    have e2 : (j : Int).toNat = j := by simp
    rw [e1, e2, getD_at _ hj', h12]
    have f1 : (l[j].1 != d1) = false := by simpa using k2
    have f2 : (l[j].2.1 != d2) = false := by simpa using k3
    have f3 : ¬ (l[j].2.2.1 < d3) := by simpa using k4
    simp only [show ((j : Int) < 4) by omega, show (0 : Int) ≤ j by omega, show ((j : Int) < l.length) by omega, hj', decide_true, Bool.and_self, cond_true, Option.bind_some, bne_self_eq_false, cond_false, f1, f2, f3, decide_false]
    by_cases e : l[j].2.2.1 = d3
    · have e' : (l[j].2.2.1 == d3) = true := by simpa using e
      rw [e']
      rcases k5 e with k5 | k5
      · have : (l[j].2.2.2.2.1 != d5) = false := by simpa using k5
        rw [this]
        exact ih
      · have k5' : d5 = -1 := k5
        have : (d5 != -1) = false := by simpa using k5'
        rw [this]
        simp only [cond_true, cond_false]
        cases (l[j].2.2.2.2.1 != d5) <;> exact ih
    · have e' : (l[j].2.2.1 == d3) = false := by simpa using e
      rw [e']
      exact ih
theorem law4 {b : Bal} (hb : Bd (.st (.pr (.i .i64) (.pr (.i .i64) (.pr (.i .i64) (.pr (.i .i64) (.pr (.i .i64) (.pr (.i .i64) (.sl (.i .i64))))))))) b) (ki ix pr tm : Int) (l : Let) : i4.G (b, ki, ix, pr, tm, l) = some true := by
  obtain ⟨nd, ns, t, rl, vd, ld, vs⟩ := b
  obtain ⟨kd, fr, tu, te, lix, lpr, cm, ye, es⟩ := l
  have hns : -9223372036854775808 ≤ ns ∧ ns ≤ 9223372036854775807 := by
    have := hb.2.1
    simpa [Bd, Lit.wf, IntKind.min, IntKind.max, IntKind.signed, IntKind.bits] using this
  have hvs : vs.length ≤ maxLen := hb.2.2.2.2.2.2.1
  show g4 nd ns t rl vd ld vs ki ix pr tm kd fr tu te lix lpr cm ye es = some true
  unfold g4
  rw [g12_eq hns hvs, g7_true]
  simp only [Option.bind_some]
  by_cases h : okB (nd, ns, t, rl, vd, ld, vs)
  · have h0 : chk nd ns t rl vd ld vs = 0 := h
    rw [h0]
    simp only [bne_self_eq_false, cond_false]
    by_cases hes : (es.length : Int) > 10
    · simp [hes]
    · have hl : vs.length ≤ 7 := okB_len h
      obtain ⟨cl, hc⟩ := g13_eq (nd := nd) (ns := ns) (tm := t) (rl := rl) (vd := vd) (ld := ld) (vs := vs) ix pr h
      have h16 := g16_eq (b := (nd, ns, t, rl, vd, ld, vs)) kd fr tu te lix lpr cm ye es h
      have h16' : g16 nd ns t rl vd ld vs kd fr tu te lix lpr cm ye es = _ := h16
      rw [hc, g14_eq kd fr tu te lix lpr cm ye es ix pr hl, g15_eq tm hl, h16']
      simp only [hes, decide_false, cond_false, Option.bind_some]
      obtain ⟨ka, kl⟩ := ans_keeps h kd fr tu te lix lpr ix pr
      generalize ans (nd, ns, t, rl, vd, ld, vs) kd fr tu te lix lpr ix pr = A at ka kl ⊢
      obtain ⟨A1, A2⟩ := A
      have hloop := loop4 (l7 := A1) (l8 := A2) h [camp (nd, ns, t, rl, vd, ld, vs), obs (nd, ns, t, rl, vd, ld, vs) tm, A1, cnt (nd, ns, t, rl, vd, ld, vs) kd fr tu te ye] rfl (by
        intro x hx
        simp only [List.mem_cons, List.not_mem_nil, or_false] at hx
        rcases hx with rfl | rfl | rfl | rfl
        · exact camp_keeps h
        · exact obs_keeps h tm
        · exact ka
        · exact cnt_keeps h kd fr tu te ye) 4 0 fuel (by omega) (by rw [fuel_eq]; omega)
      have hl2 : h4_0 (((4 : Int), 0), [camp (nd, ns, t, rl, vd, ld, vs), obs (nd, ns, t, rl, vd, ld, vs) tm, A1, cnt (nd, ns, t, rl, vd, ld, vs) kd fr tu te ye], A2, A1, nd, ns, t, rl, vd, ld, vs) = _ := hloop
      dsimp only at kl ⊢
      first | rw [hl2] | (simp only [Int.cast_ofNat_Int]; rw [hl2])
      simp only [Option.bind_some]
      cases hy : A2.2.2.2.2.2.2.2.1
      · rfl
      · obtain ⟨y1, y2⟩ := kl hy
        have y1' : A2.2.2.2.1 = A1.2.2.1 := y1
        have y2' : A1.2.2.2.2.1 = A2.2.2.1 := y2
        simp [y1', y2']
  · have h0 : ¬ chk nd ns t rl vd ld vs = 0 := h
    have : (chk nd ns t rl vd ld vs != 0) = true := by simpa using h0
    simp [this]
theorem VoteKeeps {a0 : Ty.den (.st (.pr (.i .i64) (.pr (.i .i64) (.pr (.i .i64) (.pr (.i .i64) (.pr (.i .i64) (.pr (.i .i64) (.sl (.i .i64)))))))))} {a1 : Ty.den (.st (.pr (.i .i64) (.pr (.i .i64) (.pr (.i .i64) (.pr (.i .i64) (.st (.pr (.i .i64) (.pr (.i .i64) (.pr (.i .i64) (.pr (.i .i64) (.pr (.i .i64) (.pr (.i .i64) (.pr (.i .i64) (.pr .b (.sl (.st (.pr (.i .i64) .s)))))))))))))))))} (h0 : Bd _ a0) (h1 : Bd _ a1) : i4.G (a0, a1) = some true := law4 h0 a1.1 a1.2.1 a1.2.2.1 a1.2.2.2.1 a1.2.2.2.2
end Go.Proofs.Ytehjeifbgegabaa.EVT
