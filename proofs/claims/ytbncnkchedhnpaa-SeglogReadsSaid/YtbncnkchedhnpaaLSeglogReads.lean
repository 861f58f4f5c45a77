/- The law SeglogReads: what was appended is read, from any offset on. -/
import Derived.Test.YtbncnkchedhnpaaQE
set_option linter.unusedVariables false
set_option linter.unusedSimpArgs false
namespace Go.Proofs.Ytbncnkchedhnpaa.EVT
open Go Go.EV

theorem recL_filter (f : Int) : ∀ (L : List RV) (o : Int), (recL o L).filter (fun x => decide (x.1 ≥ f)) = (recL o L).drop (f - o).toNat
  | [], o => by simp [recL]
  | (n, s, v) :: L, o => by
    simp only [recL, List.filter_cons]
    by_cases h : o ≥ f
    · rw [if_pos (by simpa using h), recL_filter f L (o + 1), show (f - (o + 1)).toNat = 0 by omega, show (f - o).toNat = 0 by omega]; rfl
    · rw [if_neg (by simpa using h), recL_filter f L (o + 1), show (f - o).toNat = (f - (o + 1)).toNat + 1 by omega]; rfl
theorem lgR_flat : ∀ (Ls : List (List RV)) (o : Int), lgR o Ls = recL o Ls.flatten
  | [], o => rfl
  | L :: Ls, o => by simp only [lgR, List.flatten_cons, recL_app, lgR_flat Ls]
theorem rd_from (o f n : Int) (Ls : List (List RV)) (hn : ((lgR o Ls).length : Int) ≤ n) : rdR f n (lgR o Ls) [] = (lgR o Ls).drop (f - o).toNat := by
  rw [rdR_cap, List.nil_append, lgR_flat, recL_filter]
  refine List.take_of_length_le ?_
  rw [lgR_flat] at hn
  simp only [List.length_drop, List.length_nil]
  omega
theorem put_loop (A : List WAct) (lim b : Int) (hA : A.length ≤ 40) : ∀ (d j k : Nat) (Ls : List (List RV)), j + d = A.length → d < k → WF lim j 0 Ls →
    ∃ Ls', loopN st3_0 k ((A, b, (j : Int)), lgS 0 Ls, lgR 0 Ls, lim, ()) = some (.inl (b, lgR 0 Ls', (lim, ()), lgS 0 Ls')) ∧ WF lim (j + d) 0 Ls' := by
  intro d
  induction d with
  | zero =>
    intro j k Ls hj hd h
    cases k with
    | zero => omega
    | succ k =>
      rw [loopN_s]; generalize loopN st3_0 k = LL at *; dsimp only [st3_0]
      rw [cf (by (rw [Bool.eq_false_iff]; simp only [ne_eq, Bool.and_eq_true, Bool.or_eq_true, decide_eq_true_eq, beq_iff_eq, bne_iff_ne, Bool.not_eq_true', decide_eq_false_iff_not, and_true, true_and]; omega))]
      exact ⟨Ls, rfl, h⟩
  | succ d ih =>
    intro j k Ls hj hd h
    cases k with
    | zero => omega
    | succ k =>
      have ih' := fun Ls a => ih (j + 1) k Ls (by omega) (by omega) a
      rw [loopN_s]; generalize loopN st3_0 k = LL at ih' ⊢; dsimp only [st3_0]
      rw [ct (by (simp only [ne_eq, Bool.and_eq_true, Bool.or_eq_true, decide_eq_true_eq, beq_iff_eq, bne_iff_ne, Bool.not_eq_true', decide_eq_false_iff_not, and_true, true_and]; omega)), ct (by (simp only [ne_eq, Bool.and_eq_true, Bool.or_eq_true, decide_eq_true_eq, beq_iff_eq, bne_iff_ne, Bool.not_eq_true', decide_eq_false_iff_not, and_true, true_and]; omega)), i64w (n := (j : Int) + 1) (by omega) (by omega)]
      generalize A.getD (Int.toNat j) (0, 0, 0, 0, 0, [], []) = x
      obtain ⟨Ms, M, e, hk, hbM, ha1, ha2⟩ := app_lg h x.2.2.2.2.1 x.2.2.2.2.2.1 x.2.2.2.2.2.2
      have happ : WF lim (j + 1) 0 (aL lim 0 Ms M x.2.2.2.2.1 x.2.2.2.2.2.1 x.2.2.2.2.2.2) := app_wf (by rw [← e]; exact h) (by omega) _ _ _
      have hrec := app_recs (lim := lim) (o := 0) (Ms := Ms) (M := M) x.2.2.2.2.1 x.2.2.2.2.2.1 x.2.2.2.2.2.2
      rw [← e] at hrec
      have hN := lgN_len Ls 0
      have hrl := h.recs
      obtain ⟨Ls', g1, g2⟩ := ih' _ happ
      rw [show j + 1 + d = j + (d + 1) by omega] at g2
      refine ⟨Ls', ?_, g2⟩
      rw [ha1]
      simp only [Option.bind_some]
      by_cases h0 : (aR 0 Ls x.2.2.2.2.1 x.2.2.2.2.2.1 x.2.2.2.2.2.2).2 = 0
      · rw [if_pos h0] at hrec
        have h1 : (aR 0 Ls x.2.2.2.2.1 x.2.2.2.2.2.1 x.2.2.2.2.2.2).1 = lgN 0 Ls := by
          unfold aR at h0 ⊢
          split
          · rename_i hc
            rw [if_pos hc] at h0
            exact absurd h0 hc
          · split
            · rename_i hc hc2
              rw [if_neg hc, if_pos hc2] at h0
              simp at h0
            · rfl
        rw [ct (by simpa using h0), cf (by rw [h1]; simp; omega), ct (by (simp only [ne_eq, Bool.and_eq_true, Bool.or_eq_true, decide_eq_true_eq, beq_iff_eq, bne_iff_ne, Bool.not_eq_true', decide_eq_false_iff_not, and_true, true_and]; omega)), h1]
        rw [hrec] at g1
        exact g1
      · rw [if_neg h0, List.append_nil] at hrec
        rw [cf (by simpa using h0)]
        rw [hrec] at g1
        exact g1
theorem get_loop (lim o : Int) (W : List Rec) (Ls : List (List RV)) (hn : Ls ≠ []) (hok : lgOk o Ls) (hl : Ls.length ≤ 1000000) (ho : 0 ≤ o) (hN : lgN o Ls = (W.length : Int)) (hR : lgR o Ls = W.drop o.toNat) (hW : W.length ≤ 65536) (fst : Int) : ∀ (d j k : Nat), o ≤ (j : Int) → j + d = W.length + 1 → d < k →
    loopN st3_1 k ((fst, (j : Int)), lgS o Ls, W, lim, ()) = some (.inl (fst, (lim, ()), lgS o Ls)) := by
  intro d
  induction d with
  | zero =>
    intro j k hj0 hj hd
    cases k with
    | zero => omega
    | succ k =>
      rw [loopN_s]; generalize loopN st3_1 k = LL at *; dsimp only [st3_1]
      rw [cf (by (rw [Bool.eq_false_iff]; simp only [ne_eq, Bool.and_eq_true, Bool.or_eq_true, decide_eq_true_eq, beq_iff_eq, bne_iff_ne, Bool.not_eq_true', decide_eq_false_iff_not, and_true, true_and]; omega))]
  | succ d ih =>
    intro j k hj0 hj hd
    cases k with
    | zero => omega
    | succ k =>
      have ih' := ih (j + 1) k (by omega) (by omega) (by omega)
      rw [loopN_s]; generalize loopN st3_1 k = LL at ih' ⊢; dsimp only [st3_1]
      have hRl : (lgR o Ls).length ≤ W.length := by rw [hR, List.length_drop]; omega
      rw [ct (by (simp only [ne_eq, Bool.and_eq_true, Bool.or_eq_true, decide_eq_true_eq, beq_iff_eq, bne_iff_ne, Bool.not_eq_true', decide_eq_false_iff_not, and_true, true_and]; omega)), Read_log lim o _ _ hn hok hl (by omega)]
      simp only [Option.bind_some]
      have e1 : lRead o Ls (j : Int) (W.length : Int) = (W.drop j, 0) := by
        unfold lRead
        rw [if_neg (by omega), rd_from o _ _ Ls (by omega), hR, List.drop_drop]
        congr 2
        omega
      rw [e1, cf (by simp), ct (by (simp only [ne_eq, Bool.and_eq_true, Bool.or_eq_true, decide_eq_true_eq, beq_iff_eq, bne_iff_ne, Bool.not_eq_true', decide_eq_false_iff_not, and_true, true_and]; omega)), Int.toNat_natCast, List.take_of_length_le (by rw [List.length_drop]; omega), SameR_eq _ (by rw [List.length_drop]; omega)]
      simp only [Option.bind_some]
      rw [cf (b := !true) rfl, i64w (n := (j : Int) + 1) (by omega) (by omega)]
      exact ih'
theorem law_reads (a0 : Int) (A : List WAct) (b : Int) : g3 a0 A b = some true := by
  unfold g3
  obtain ⟨r, hr, hr2⟩ := short_eq A
  rw [hr]
  simp only [Option.bind_some]
  cases r with
  | false => rw [ct (b := !false) rfl, awake34]; rfl
  | true =>
    have hA := hr2 rfl
    rw [cf (b := !true) rfl]
    by_cases h1 : a0 < 64
    · rw [ct (by (simp only [ne_eq, Bool.and_eq_true, Bool.or_eq_true, decide_eq_true_eq, beq_iff_eq, bne_iff_ne, Bool.not_eq_true', decide_eq_false_iff_not, and_true, true_and]; omega)), awake34]; rfl
    · rw [cf (by (rw [Bool.eq_false_iff]; simp only [ne_eq, Bool.and_eq_true, Bool.or_eq_true, decide_eq_true_eq, beq_iff_eq, bne_iff_ne, Bool.not_eq_true', decide_eq_false_iff_not, and_true, true_and]; omega))]
      by_cases h2 : a0 > 65536
      · rw [ct (by (simp only [ne_eq, Bool.and_eq_true, Bool.or_eq_true, decide_eq_true_eq, beq_iff_eq, bne_iff_ne, Bool.not_eq_true', decide_eq_false_iff_not, and_true, true_and]; omega)), awake34]; rfl
      · rw [cf (by (rw [Bool.eq_false_iff]; simp only [ne_eq, Bool.and_eq_true, Bool.or_eq_true, decide_eq_true_eq, beq_iff_eq, bne_iff_ne, Bool.not_eq_true', decide_eq_false_iff_not, and_true, true_and]; omega)), New_eq, if_neg (by omega)]
        simp only [Option.bind_some, Option.elim]
        rw [cf (by simp)]
        obtain ⟨Ls, g1, g2⟩ := put_loop A a0 b hA A.length 0 fuel [[]] (by omega) (by rw [fuel_eq]; omega) (WF.new (by omega) (by omega))
        have g1' : h3_0 ((A, b, 0), lgS 0 [[]], [], a0, ()) = some (.inl (b, lgR 0 Ls, (a0, ()), lgS 0 Ls)) := g1
        rw [g1']
        simp only [Option.bind_some]
        rw [Nat.zero_add] at g2
        have hl : Ls.length ≤ 1000000 := by have := g2.len; omega
        rw [Drop_log a0 0 b g2.nn g2.ok hl]
        simp only [Option.bind_some]
        have hwf := drop_wf g2 (by omega) b
        obtain ⟨i1, i2, i3, i4, i5, i6, i7⟩ := lgDrp_inv b Ls 0 0 g2.ok g2.ne
        have hN := lgN_len Ls 0
        have hrl := g2.recs
        have f1 : (lDrop b 0 Ls).1 = (lDrop b 0 Ls).2.1 := by show (lgDrp b 0 Ls 0).1 = (lgDrp b 0 Ls 0).2.1; omega
        have f2 : 0 ≤ (lDrop b 0 Ls).2.1 := i5
        have f3 : (lDrop b 0 Ls).2.1 = 0 ∨ (lDrop b 0 Ls).2.1 ≤ b := i6
        have f4 : lgN (lDrop b 0 Ls).2.1 (lDrop b 0 Ls).2.2 = ((lgR 0 Ls).length : Int) := by
          unfold lDrop
          by_cases he : (lgDrp b 0 Ls 0).2.2 = []
          · have e := lgDrp_end b Ls 0 0 he
            simp only [he, if_pos]
            simp only [lgN, List.length_nil]; omega
          · simp only [if_neg he]; omega
        have f5 : lgR (lDrop b 0 Ls).2.1 (lDrop b 0 Ls).2.2 = (lgR 0 Ls).drop (lDrop b 0 Ls).2.1.toNat := by
          have i7' : lgR (lgDrp b 0 Ls 0).2.1 (lgDrp b 0 Ls 0).2.2 = (lgR 0 Ls).drop (lgDrp b 0 Ls 0).2.1.toNat := by rw [i7]; congr 1; omega
          unfold lDrop
          by_cases he : (lgDrp b 0 Ls 0).2.2 = []
          · simp only [he, if_pos]
            rw [he] at i7'
            rw [← i7']; simp [lgR, recL]
          · simp only [if_neg he]; exact i7'
        generalize lDrop b 0 Ls = D at *
        obtain ⟨c, o, Lf⟩ := D
        simp only at f1 f2 f3 f4 f5 hwf ⊢
        subst f1
        have hlf : Lf.length ≤ 1000000 := by have := hwf.len; omega
        have hol := lgN_le Lf c
        have fin : ∀ (Q : Option Bool), (Option.bind (g13 a0 (lgS c Lf)) fun v11 => cond (v11.1 != ((List.length (lgR 0 Ls) : Nat) : Int)) (some false)
            (Option.bind (h3_1 ((c, c), v11.2.2, lgR 0 Ls, v11.2.1, ())) fun v12 => match v12 with
              | .inl x13 => Option.bind (g14 x13.2.1.1 x13.2.2 (IntKind.i64.wrap (x13.1 - 1)) 1) fun v14 => cond (v14.1.2 == 1) (Option.bind (g8) fun v15 => some (v15)) (some false)
              | .inr x13 => some x13)) = some true := by
          intro _
          rw [Next_lg a0 c hwf.nn hlf]
          simp only [Option.bind_some]
          rw [cf (by rw [f4]; simp)]
          have hg := get_loop a0 c (lgR 0 Ls) Lf hwf.nn hwf.ok hlf f2 f4 f5 (by omega) c ((lgR 0 Ls).length + 1 - c.toNat) c.toNat fuel (by omega) (by omega) (by rw [fuel_eq]; omega)
          rw [show ((c.toNat : Nat) : Int) = c by omega] at hg
          have hg' : h3_1 ((c, c), lgS c Lf, lgR 0 Ls, a0, ()) = _ := hg
          rw [hg']
          simp only [Option.bind_some]
          rw [i64w (n := c - 1) (by omega) (by omega), Read_log a0 c _ _ hwf.nn hwf.ok hlf (by have h3 := hwf.recs; have h4 := hwf.m0; omega)]
          simp only [Option.bind_some]
          have e1 : lRead c Lf (c - 1) 1 = ([], 1) := by unfold lRead; rw [if_pos (.inl (by omega))]
          rw [e1, ct (by simp), awake34]
          rfl
        rw [First_log a0 c hwf.nn]
        simp only [Option.bind_some]
        rw [cf (by simp), cf (by (rw [Bool.eq_false_iff]; simp only [ne_eq, Bool.and_eq_true, Bool.or_eq_true, decide_eq_true_eq, beq_iff_eq, bne_iff_ne, Bool.not_eq_true', decide_eq_false_iff_not, and_true, true_and]; omega)), cf (by (rw [Bool.eq_false_iff]; simp only [ne_eq, Bool.and_eq_true, Bool.or_eq_true, decide_eq_true_eq, beq_iff_eq, bne_iff_ne, Bool.not_eq_true', decide_eq_false_iff_not, and_true, true_and]; omega))]
        by_cases hc : c > 0
        · rw [ct (by (simp only [ne_eq, Bool.and_eq_true, Bool.or_eq_true, decide_eq_true_eq, beq_iff_eq, bne_iff_ne, Bool.not_eq_true', decide_eq_false_iff_not, and_true, true_and]; omega)), cf (by (rw [Bool.eq_false_iff]; simp only [ne_eq, Bool.and_eq_true, Bool.or_eq_true, decide_eq_true_eq, beq_iff_eq, bne_iff_ne, Bool.not_eq_true', decide_eq_false_iff_not, and_true, true_and]; omega))]
          exact fin none
        · rw [cf (by (rw [Bool.eq_false_iff]; simp only [ne_eq, Bool.and_eq_true, Bool.or_eq_true, decide_eq_true_eq, beq_iff_eq, bne_iff_ne, Bool.not_eq_true', decide_eq_false_iff_not, and_true, true_and]; omega))]
          exact fin none
theorem SeglogReads {a0 : Ty.den (.i .i64)} {a1 : Ty.den (.sl (.st (.pr (.i .u8) (.pr (.i .i64) (.pr (.i .i64) (.st (.pr (.i .i64) (.pr (.i .i64) (.pr .s .s)))))))))} {a2 : Ty.den (.i .i64)} (h0 : Bd _ a0) (h1 : Bd _ a1) (h2 : Bd _ a2) : i3.G (a0, a1, a2) = some true :=
  law_reads a0 a1 a2
end Go.Proofs.Ytbncnkchedhnpaa.EVT
