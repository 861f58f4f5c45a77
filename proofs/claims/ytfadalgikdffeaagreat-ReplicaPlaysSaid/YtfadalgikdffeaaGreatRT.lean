/- Replicated logs: the reference takes over entries, and receives letters, alike. -/
import Derived.Test.YtfadalgikdffeaaGreatRS
set_option linter.unusedVariables false
set_option linter.unusedSimpArgs false
namespace Go.Proofs.YtfadalgikdffeaaGreat.EVT
open Go Go.EV

theorem trm_getD2 (L : Lg) (k : Nat) : trm L (k + 1) = (L.getD k (0, [])).1 := by
  unfold trm; rw [if_neg (by omega), Nat.add_sub_cancel]
/-- Behind the log's end all entries are new. -/
theorem take_new {b : Bal} {cm : Int} {mt : List Int} {es : Lg} (he : es.length ≤ 32) {a : Nat} (ha : a ≤ 4096) (z : Rep) (l : Let) (hl : l.2.2.2.2.1 = (a : Int)) (t6 : Int) : ∀ (d j n : Nat) (M : Lg), j + d = es.length → d < n → M.length = a + j →
    loopN st77_0 n ((t6, es, (es.length : Int), (j : Int)), z, l, b, cm, M, mt) = some (.inl (t6, z, l, b, cm, M ++ es.drop j, mt))
  | 0, j, n + 1, M, hj, hn, hM => by
    obtain ⟨⟨c1, c2, c3, c4, c5, c6, c7⟩, d1, d2, d3⟩ := z
    obtain ⟨l1, l2, l3, l4, l5, l6, l7, l8, l9⟩ := l
    obtain ⟨b1, b2, b3, b4, b5, b6, b7⟩ := b
    rw [loopN_s]; dsimp only [st77_0]
    rw [cf (decide_eq_false (by omega)), List.drop_eq_nil_of_le (by omega), List.append_nil]
  | d + 1, j, n + 1, M, hj, hn, hM => by
    have ih := fun M hM => take_new (b := b) (cm := cm) (mt := mt) he ha z l hl t6 d (j + 1) n M (by omega) (by omega) hM
    obtain ⟨⟨c1, c2, c3, c4, c5, c6, c7⟩, d1, d2, d3⟩ := z
    obtain ⟨l1, l2, l3, l4, l5, l6, l7, l8, l9⟩ := l
    obtain ⟨b1, b2, b3, b4, b5, b6, b7⟩ := b
    simp only at hl
    subst hl
    have hj' : j < es.length := by omega
    rw [loopN_s]; generalize loopN st77_0 n = LL at ih ⊢; dsimp only [st77_0]
    rw [wrap_in (n := (a : Int) + 1) (by omega), wrap_in (n := (a : Int) + 1 + (j : Int)) (by omega), wrap_in (n := (j : Int) + 1) (by omega)]
    rw [ct (decide_eq_true (by omega)), ct (in_rng (by omega) (by omega)), cf (decide_eq_false (by omega)), ct (decide_eq_true (by omega)), Int.toNat_natCast, getD_at _ hj', show ((j : Int) + 1) = ((j + 1 : Nat) : Int) by omega]
    show Option.bind (cond (decide (M.length ≤ 2147483647)) (some M) none) _ = _
    rw [clone_some (by omega)]
    simp only [Option.bind_some]
    rw [ct (decide_eq_true (by omega)), ih (M ++ [es[j]]) (by simp; omega), List.drop_eq_getElem_cons hj', List.append_assoc, List.singleton_append]
/-- Up to where the log has the entries already. -/
theorem take_old {b : Bal} {cm : Int} {mt : List Int} {L es : Lg} (hL : L.length ≤ 4096) (he : es.length ≤ 32) {a : Nat} (z : Rep) (l : Let) (hl : l.2.2.2.2.1 = (a : Int)) (t6 : Int) : ∀ (d j n : Nat), j + d = es.length → d < n → a + j ≤ L.length →
    loopN st77_0 n ((t6, es, (es.length : Int), (j : Int)), z, l, b, cm, L, mt) =
      some (if (conf L (a + j) (es.drop j)).2 = true ∧ ((a + j + (conf L (a + j) (es.drop j)).1 : Nat) : Int) < cm then .inr ((b, cm, L, mt), false)
        else .inl (t6, z, l, b, cm, (if (conf L (a + j) (es.drop j)).2 then L.take (a + j + (conf L (a + j) (es.drop j)).1) else L) ++ es.drop (j + (conf L (a + j) (es.drop j)).1), mt))
  | 0, j, n + 1, hj, hn, hM => by
    obtain ⟨⟨c1, c2, c3, c4, c5, c6, c7⟩, d1, d2, d3⟩ := z
    obtain ⟨l1, l2, l3, l4, l5, l6, l7, l8, l9⟩ := l
    obtain ⟨b1, b2, b3, b4, b5, b6, b7⟩ := b
    have e0 : es.drop j = [] := List.drop_eq_nil_of_le (by omega)
    have e1 : conf L (a + j) [] = (0, false) := rfl
    rw [loopN_s]; dsimp only [st77_0]
    rw [cf (decide_eq_false (by omega)), e0, e1, if_neg (fun e => by cases e.1), if_neg (by decide)]
    simp [e0]
  | d + 1, j, n + 1, hj, hn, hM => by
    have ih := fun h => take_old (b := b) (cm := cm) (mt := mt) hL he (a := a) z l hl t6 d (j + 1) n (by omega) (by omega) h
    have nw := fun M h => take_new (b := b) (cm := cm) (mt := mt) he (a := a) (by omega) z l hl t6 d (j + 1) n M (by omega) (by omega) h
    obtain ⟨⟨c1, c2, c3, c4, c5, c6, c7⟩, d1, d2, d3⟩ := z
    obtain ⟨l1, l2, l3, l4, l5, l6, l7, l8, l9⟩ := l
    obtain ⟨b1, b2, b3, b4, b5, b6, b7⟩ := b
    simp only at hl
    subst hl
    have hj' : j < es.length := by omega
    rw [loopN_s]; generalize loopN st77_0 n = LL at ih nw ⊢; dsimp only [st77_0]
    rw [wrap_in (n := (a : Int) + 1) (by omega), wrap_in (n := (a : Int) + 1 + (j : Int)) (by omega), wrap_in (n := (j : Int) + 1) (by omega), wrap_in (n := (a : Int) + 1 + (j : Int) - 1) (by omega)]
    rw [ct (decide_eq_true (by omega)), ct (in_rng (by omega) (by omega)), Int.toNat_natCast, getD_at _ hj', show ((j : Int) + 1) = ((j + 1 : Nat) : Int) by omega, List.drop_eq_getElem_cons hj']
    by_cases h1 : L.length ≤ a + j
    · have e1 : conf L (a + j) (es[j] :: es.drop (j + 1)) = (0, false) := by unfold conf; rw [if_pos h1]
      rw [cf (decide_eq_false (by omega)), ct (decide_eq_true (by omega)), e1, if_neg (fun e => by cases e.1), if_neg (by decide)]
      show Option.bind (cond (decide (L.length ≤ 2147483647)) (some L) none) _ = _
      rw [clone_some (by omega)]
      simp only [Option.bind_some]
      rw [ct (decide_eq_true (by omega)), nw (L ++ [es[j]]) (by simp; omega)]
      simp only [Nat.add_zero]
      rw [List.drop_eq_getElem_cons hj', List.append_assoc, List.singleton_append]
    · rw [ct (decide_eq_true (by omega)), refT (by omega) (by omega) (by omega), show ((a : Int) + 1 + (j : Int)).toNat = a + j + 1 by omega, trm_getD2]
      simp only [Option.bind_some]
      by_cases h2 : (L.getD (a + j) (0, [])).1 = es[j].1
      · have e1 : conf L (a + j) (es[j] :: es.drop (j + 1)) = ((conf L (a + j + 1) (es.drop (j + 1))).1 + 1, (conf L (a + j + 1) (es.drop (j + 1))).2) := by
          conv => lhs; unfold conf
          rw [if_neg h1, if_pos h2]
        rw [cf (by simpa using h2), cf (decide_eq_false (by omega)), e1]
        have ih' := ih (by omega)
        rw [show a + (j + 1) = a + j + 1 by omega] at ih'
        rw [ih']
        generalize conf L (a + j + 1) (es.drop (j + 1)) = q
        dsimp only
        rw [show a + j + 1 + q.1 = a + j + (q.1 + 1) by omega, show j + 1 + q.1 = j + (q.1 + 1) by omega]
      · have e1 : conf L (a + j) (es[j] :: es.drop (j + 1)) = (0, true) := by
          unfold conf
          rw [if_neg h1, if_neg h2]
        rw [ct (by simpa using h2), e1]
        dsimp only
        simp only [Nat.add_zero]
        by_cases h3 : ((a + j : Nat) : Int) < cm
        · rw [ct (decide_eq_true (by omega)), if_pos ⟨trivial, h3⟩]
        · rw [cf (decide_eq_false (by omega)), if_neg (fun e => h3 e.2), if_pos trivial, ct (in_rng2 (by omega) (by omega)), List.drop_zero, show ((a : Int) + 1 + (j : Int) - 1).toNat = a + j by omega, ct (decide_eq_true (by rw [List.length_take]; omega))]
          show Option.bind (cond (decide ((L.take (a + j)).length ≤ 2147483647)) (some (L.take (a + j))) none) _ = _
          rw [clone_some (by rw [List.length_take]; omega)]
          simp only [Option.bind_some]
          rw [ct (decide_eq_true (by rw [List.length_take]; omega)), nw (L.take (a + j) ++ [es[j]]) (by simp; omega), List.drop_eq_getElem_cons hj', List.append_assoc, List.singleton_append]
theorem g77_eq {nd ns tm rl vd ld cm : Int} {vs : List Int} {L : Lg} {mt : List Int} (kd fr tu te pr lcm : Int) {a : Nat} (ye : Bool) {es : Lg} (hL : L.length ≤ 4096) (ha : a ≤ 4096) (he : es.length ≤ 32) :
    g77 nd ns tm rl vd ld vs cm L mt kd fr tu te (a : Int) pr lcm ye es = some (match takeR ((nd, ns, tm, rl, vd, ld, vs), cm, L, mt) (a : Int) pr lcm es with
      | none => (((nd, ns, tm, rl, vd, ld, vs), cm, L, mt), false)
      | some q => (((nd, ns, tm, rl, vd, ld, vs), q.1, q.2, mt), true)) := by
  unfold g77 takeR
  dsimp only
  simp only [mx2, mn2]
  rw [Int.toNat_natCast]
  have C : ∀ p : Prop, p = p := fun _ => rfl
  by_cases t1 : (a : Int) > (L.length : Int)
  · rw [ct (decide_eq_true t1), if_pos (show (a : Int) > (L.length : Int) ∨ trm L a ≠ pr ∨ (a : Int) + (es.length : Int) > 4096 from .inl t1)]
  rw [cf (decide_eq_false t1), refT (by omega) (by omega) (by omega)]
  simp only [Option.bind_some, Int.toNat_natCast]
  by_cases t2 : trm L a = pr
  rotate_left
  · rw [ct (by simpa using t2), if_pos (show (a : Int) > (L.length : Int) ∨ trm L a ≠ pr ∨ (a : Int) + (es.length : Int) > 4096 from .inr (.inl t2))]
  rw [cf (by simpa using t2), wrap_in (by omega)]
  by_cases t3 : (a : Int) + (es.length : Int) > 4096
  · rw [ct (decide_eq_true t3), if_pos (show (a : Int) > (L.length : Int) ∨ trm L a ≠ pr ∨ (a : Int) + (es.length : Int) > 4096 from .inr (.inr t3))]
  rw [cf (decide_eq_false t3), if_neg (show ¬ ((a : Int) > (L.length : Int) ∨ trm L a ≠ pr ∨ (a : Int) + (es.length : Int) > 4096) by rintro (e | e | e); exact t1 e; exact e t2; exact t3 e)]
  have h := take_old (b := (nd, ns, tm, rl, vd, ld, vs)) (cm := cm) (mt := mt) hL he (a := a) ((0, 0, 0, 0, 0, 0, []), 0, [], []) (kd, fr, tu, te, (a : Int), pr, lcm, ye, es) rfl ((a : Int) + (es.length : Int)) es.length 0 fuel (by omega) (by rw [fuel_eq]; omega) (by omega)
  have h' : h77_0 (((a : Int) + (es.length : Int), es, (es.length : Int), 0), ((0, 0, 0, 0, 0, 0, []), 0, [], []), (kd, fr, tu, te, (a : Int), pr, lcm, ye, es), (nd, ns, tm, rl, vd, ld, vs), cm, L, mt) = _ := h
  rw [h', List.drop_zero, Nat.add_zero, Nat.zero_add]
  generalize conf L a es = q
  by_cases t4 : q.2 = true ∧ (a : Int) + (q.1 : Int) < cm
  · rw [if_pos (show q.2 = true ∧ ((a + q.1 : Nat) : Int) < cm from ⟨t4.1, by omega⟩), if_pos t4]
    rfl
  · rw [if_neg (show ¬ (q.2 = true ∧ ((a + q.1 : Nat) : Int) < cm) from fun e => t4 ⟨e.1, by omega⟩), if_neg t4]
    simp only [Option.bind_some]
    rw [if_pos trivial, if_neg (by decide), Int.min_comm, Int.max_comm]
theorem g54_eq {nd ns tm rl vd ld cm : Int} {vs : List Int} {L : Lg} {mt : List Int} (kd fr tu te pr lcm : Int) {a : Nat} (ye : Bool) {es : Lg} (hv : vs.length ≤ 7) (hL : L.length ≤ 4096) (ha : a ≤ 4096) (hes : es.length ≤ 32) :
    g54 nd ns tm rl vd ld vs cm L mt kd fr tu te (a : Int) pr lcm ye es = some (appR ((nd, ns, tm, rl, vd, ld, vs), cm, L, mt) fr te (a : Int) pr lcm es) := by
  unfold g54 appR
  dsimp only
  by_cases h1 : te < tm
  · rw [ct (decide_eq_true h1), if_pos h1]
  rw [cf (decide_eq_false h1), if_neg h1]
  have key : (Option.bind (β := Rep × List Let) (g55 nd ns tm rl vd ld vs te) fun v2 =>
        Option.bind (g77 v2.1 v2.2.1 v2.2.2.1 0 v2.2.2.2.2.1 fr [] cm L [] kd fr tu te (a : Int) pr lcm ye es) fun v3 =>
        cond (!v3.2)
          (some ((((v2.1, v2.2.1, v2.2.2.1, 0, v2.2.2.2.2.1, fr, []), cm, L, []), [(4, nd, fr, v2.2.2.1, 0, 0, 0, false, [])])))
          (some ((v3.1, [(4, nd, fr, v2.2.2.1, IntKind.i64.wrap ((a : Int) + (es.length : Int)), 0, 0, true, [])])))) =
      some (α := Rep × List Let) (match takeR ((nd, ns, tm, rl, vd, ld, vs), cm, L, mt) (a : Int) pr lcm es with
        | none => ((folB (nd, ns, tm, rl, vd, ld, vs) te fr, cm, L, []), [(4, nd, fr, (folB (nd, ns, tm, rl, vd, ld, vs) te fr).2.2.1, 0, 0, 0, false, [])])
        | some q => ((folB (nd, ns, tm, rl, vd, ld, vs) te fr, q.1, q.2, []), [(4, nd, fr, (folB (nd, ns, tm, rl, vd, ld, vs) te fr).2.2.1, (a : Int) + (es.length : Int), 0, 0, true, [])])) := by
    rw [g55_eq te hv]
    simp only [Option.bind_some]
    rw [g77_eq kd fr tu te pr lcm ye hL ha hes]
    have e1 : ∀ (x y : Bal) (m m' : List Int), takeR (x, cm, L, m) (a : Int) pr lcm es = takeR (y, cm, L, m') (a : Int) pr lcm es := fun _ _ _ _ => rfl
    rw [e1 _ (nd, ns, tm, rl, vd, ld, vs) [] mt, wrap_in (by omega)]
    cases takeR ((nd, ns, tm, rl, vd, ld, vs), cm, L, mt) (a : Int) pr lcm es <;> rfl
  by_cases h2 : te = tm
  · rw [ct (by simpa using h2)]
    unfold g27
    simp only [Option.bind_some]
    by_cases h3 : rl = 2
    · rw [ct (by simpa using h3), if_pos ⟨h2, h3⟩]
    · rw [cf (by simpa using h3), if_neg (fun e => h3 e.2)]
      refine key.trans ?_
      cases takeR ((nd, ns, tm, rl, vd, ld, vs), cm, L, mt) (a : Int) pr lcm es <;> rfl
  · rw [cf (by simpa using h2), if_neg (fun e => h2 e.1)]
    refine key.trans ?_
    cases takeR ((nd, ns, tm, rl, vd, ld, vs), cm, L, mt) (a : Int) pr lcm es <;> rfl
theorem g14_eq {nd ns tm rl vd ld cm : Int} {vs : List Int} {L : Lg} {mt : List Int} (l : Let) (h : okR ((nd, ns, tm, rl, vd, ld, vs), cm, L, mt)) :
    g14 nd ns tm rl vd ld vs cm L mt l.1 l.2.1 l.2.2.1 l.2.2.2.1 l.2.2.2.2.1 l.2.2.2.2.2.1 l.2.2.2.2.2.2.1 l.2.2.2.2.2.2.2.1 l.2.2.2.2.2.2.2.2 = some (rcvR ((nd, ns, tm, rl, vd, ld, vs), cm, L, mt) l) := by
  have hok := h.rcv l
  obtain ⟨kd, fr, tu, te, ix, pr, lcm, ye, es⟩ := l
  have hv : vs.length ≤ 7 := okB_len h.bal
  have hm7 : mt.length ≤ 7 := h.mlen7
  have hL : L.length ≤ 4096 := h.len
  have hn := h.nodes
  unfold g14
  unfold rcvR at hok ⊢
  rw [g36_eq hv (by omega) (by omega), g50_eq hn]
  simp only [Option.bind_some]
  unfold g27
  cases hc : con nd ns fr tu te with
  | false => rw [ct (b := !false) rfl, if_pos rfl]
  | true =>
    rw [hc, if_neg (by decide)] at hok
    rw [cf (b := !true) rfl, if_neg (by decide)]
    obtain ⟨c1, c2, c3, c4, c5, c6⟩ := con_iff.1 hc
    by_cases h1 : kd = 1
    · rw [if_pos h1] at hok
      rw [ct (by simpa using h1), if_pos h1, refT (by omega) (by omega) (by omega), Int.toNat_natCast]
      simp only [Option.bind_some]
      rw [g51_eq hn kd fr tu te ix pr lcm ye es _ _ hv]
      simp only [Option.bind_some]
      have hrole := fun e => ans_role (b := (nd, ns, tm, rl, vd, ld, vs)) (kd := kd) (fr := fr) (tu := tu) (te := te) (lix := ix) (lpr := pr) (ix := L.length) (pr := trm L L.length) e
      have hk := (ans_keeps h.bal kd fr tu te ix pr L.length (trm L L.length)).1
      dsimp only at hrole ⊢
      generalize ans (nd, ns, tm, rl, vd, ld, vs) kd fr tu te ix pr L.length (trm L L.length) = A at *
      rw [g38_eq (chk_iff.1 hk.1).1]
      simp only [Option.bind_some]
      unfold settR withB
      by_cases hr2 : A.1.2.2.2.1 = 2
      · have hrl : rl = 2 := (hrole hr2).1
        rw [if_neg (by simpa using hr2), if_pos hr2, if_pos (by simpa using hrl)]
      · rw [if_pos hr2, if_neg hr2]
    rw [if_neg h1] at hok
    rw [cf (by simpa using h1), if_neg h1]
    by_cases h2 : kd = 2
    · rw [if_pos h2] at hok
      rw [ct (by simpa using h2), if_pos h2, g52_eq kd fr tu te ix pr lcm ye es h.bal]
      have hk := cnt_keeps h.bal kd fr tu te ye
      have hcl := cnt_led (b := (nd, ns, tm, rl, vd, ld, vs)) (kd := kd) (fr := fr) (tu := tu) (te := te) (ye := ye)
      dsimp only at hok hcl ⊢
      generalize hb : cnt (nd, ns, tm, rl, vd, ld, vs) kd fr tu te ye = b at *
      simp only [Option.bind_some]
      rw [g38_eq (chk_iff.1 hk.1).1]
      simp only [Option.bind_some]
      by_cases h3 : rl = 2
      · rw [cf (by simpa using h3), if_neg (fun e => e.1 h3)]
        unfold settR withB
        by_cases hr2 : b.2.2.2.1 = 2
        · rw [if_neg (by simpa using hr2), if_pos hr2, if_pos (by simpa using h3)]
        · rw [if_pos hr2, if_neg hr2]
      · rw [ct (by simpa using h3)]
        by_cases hr2 : b.2.2.2.1 = 2
        · have e1 : settR ((b.1, b.2.1, b.2.2.1, b.2.2.2.1, b.2.2.2.2.1, b.2.2.2.2.2.1, b.2.2.2.2.2.2), cm, L, mt) (rl == 2) = beginR (withB ((nd, ns, tm, rl, vd, ld, vs), cm, L, mt) b) := by
            unfold settR withB
            rw [if_neg (by simpa using hr2), if_neg (by simpa using h3)]
            rfl
          rw [if_pos ⟨h3, hr2⟩] at hok ⊢
          rw [e1]
          generalize beginR (withB ((nd, ns, tm, rl, vd, ld, vs), cm, L, mt) b) = q at *
          rw [g19_eq (nd := q.1.1) (ns := q.1.2.1) (tm := q.1.2.2.1) (rl := q.1.2.2.2.1) (vd := q.1.2.2.2.2.1) (ld := q.1.2.2.2.2.2.1) (vs := q.1.2.2.2.2.2.2) (cm := q.2.1) (L := q.2.2.1) (mt := q.2.2.2) hok]
          rfl
        · have e1 : settR ((b.1, b.2.1, b.2.2.1, b.2.2.2.1, b.2.2.2.2.1, b.2.2.2.2.2.1, b.2.2.2.2.2.2), cm, L, mt) (rl == 2) = withB ((nd, ns, tm, rl, vd, ld, vs), cm, L, mt) b := by
            unfold settR withB
            rw [if_pos (by simpa using hr2), if_neg hr2]
          rw [if_neg (fun e => hr2 e.2)] at hok ⊢
          rw [e1]
          have hq1 : (withB ((nd, ns, tm, rl, vd, ld, vs), cm, L, mt) b).1.2.2.2.1 ≠ 2 := hr2
          dsimp only at hok
          generalize withB ((nd, ns, tm, rl, vd, ld, vs), cm, L, mt) b = q at *
          rw [g19_eq (nd := q.1.1) (ns := q.1.2.1) (tm := q.1.2.2.1) (rl := q.1.2.2.2.1) (vd := q.1.2.2.2.2.1) (ld := q.1.2.2.2.2.2.1) (vs := q.1.2.2.2.2.2.2) (cm := q.2.1) (L := q.2.2.1) (mt := q.2.2.2) hok]
          unfold beatR
          rw [if_neg hq1]
          rfl
    rw [if_neg h2] at hok
    rw [cf (by simpa using h2), if_neg h2]
    by_cases h3 : kd = 3
    · rw [ct (by simpa using h3), if_pos h3, g53_eq]
      simp only [Option.bind_some]
      cases hs : soundR te ix pr lcm es with
      | false => rw [ct (b := !false) rfl, if_neg (by simp)]
      | true =>
        obtain ⟨s1, s2, s3, _⟩ := soundR_iff hs
        obtain ⟨a, rfl⟩ : ∃ a : Nat, ix = (a : Int) := ⟨ix.toNat, by omega⟩
        rw [cf (b := !true) rfl, if_pos rfl, g54_eq kd fr tu te pr lcm ye hv hL (by omega) s3]
        rfl
    rw [cf (by simpa using h3), if_neg h3]
    by_cases h4 : kd = 4
    rotate_left
    · rw [cf (by simpa using h4), if_neg h4]
    rw [if_neg h3, if_pos h4] at hok
    rw [ct (by simpa using h4), if_pos h4, g55_eq te hv]
    simp only [Option.bind_some]
    have hk := obs_keeps h.bal te
    rw [g38_eq (chk_iff.1 hk.1).1]
    simp only [Option.bind_some]
    have hml : (mt.length : Int) = wantM (nd, ns, tm, rl, vd, ld, vs) := h.mlen
    have hnn := hn
    unfold okN at hnn
    have es0 : settR (EVT.obs (nd, ns, tm, rl, vd, ld, vs) te, cm, L, mt) (rl == 2) = withB ((nd, ns, tm, rl, vd, ld, vs), cm, L, mt) (EVT.obs (nd, ns, tm, rl, vd, ld, vs) te) := by
      unfold settR withB
      by_cases hr2 : (EVT.obs (nd, ns, tm, rl, vd, ld, vs) te).2.2.2.1 = 2
      · have hrl : rl = 2 := by
          unfold EVT.obs at hr2
          split at hr2
          · exact hr2
          · simp at hr2
        rw [if_neg (by simpa using hr2), if_pos hr2, if_pos (by simpa using hrl)]
      · rw [if_pos hr2, if_neg hr2]
    have es1 : settR (((EVT.obs (nd, ns, tm, rl, vd, ld, vs) te).1, (EVT.obs (nd, ns, tm, rl, vd, ld, vs) te).2.1, (EVT.obs (nd, ns, tm, rl, vd, ld, vs) te).2.2.1, (EVT.obs (nd, ns, tm, rl, vd, ld, vs) te).2.2.2.1, (EVT.obs (nd, ns, tm, rl, vd, ld, vs) te).2.2.2.2.1, (EVT.obs (nd, ns, tm, rl, vd, ld, vs) te).2.2.2.2.2.1, (EVT.obs (nd, ns, tm, rl, vd, ld, vs) te).2.2.2.2.2.2), cm, L, mt) (rl == 2) = withB ((nd, ns, tm, rl, vd, ld, vs), cm, L, mt) (EVT.obs (nd, ns, tm, rl, vd, ld, vs) te) := es0
    rw [es1]
    unfold apdR
    dsimp only
    by_cases h5 : te > tm
    · rw [cf (by simp; omega), if_pos h5]
    · rw [if_neg h5]
      have eo : EVT.obs (nd, ns, tm, rl, vd, ld, vs) te = (nd, ns, tm, rl, vd, ld, vs) := if_pos (.inl (show te ≤ tm by omega))
      have ew : withB ((nd, ns, tm, rl, vd, ld, vs), cm, L, mt) (nd, ns, tm, rl, vd, ld, vs) = ((nd, ns, tm, rl, vd, ld, vs), cm, L, mt) := by
        unfold withB
        dsimp only
        by_cases hrl : rl = 2
        · rw [if_pos hrl]
        · rw [if_neg hrl]
          have : mt = [] := by
            unfold wantM at hml
            rw [if_neg hrl] at hml
            exact List.length_eq_zero_iff.1 (by omega)
          rw [this]
      rw [eo, ew]
      dsimp only
      by_cases h6 : te < tm
      · rw [cf (by simp; omega), if_pos (.inl h6)]
      rw [ct (by simp; omega)]
      by_cases h7 : rl = 2
      rotate_left
      · rw [cf (by simpa using h7), if_pos (.inr (.inl h7))]
      rw [ct (by simpa using h7)]
      have hml2 : (mt.length : Int) = ns := by rw [hml]; unfold wantM; rw [if_pos h7]
      have hmr := getD_rng (n := fr.toNat) h.mrng (by dsimp only; omega)
      dsimp only at hmr
      cases ye with
      | false => rw [cf rfl, if_pos (.inr (.inr (.inl rfl)))]
      | true =>
        rw [ct rfl, ct (in_rng (by omega) (by omega)), wrap_in (by omega), g25_eq]
        simp only [Option.bind_some]
        by_cases h8 : mt.getD fr.toNat 0 + 1 ≤ ix ∧ ix ≤ (L.length : Int)
        · rw [ct (by rw [Bool.and_eq_true]; exact ⟨decide_eq_true h8.1, decide_eq_true h8.2⟩), ct (in_rng (by omega) (by omega)), ct (decide_eq_true (by omega)), if_neg (by rintro (e | e | e | e | e | e) <;> first | omega | exact absurd h7 e | cases e), g40_eq (by rw [List.length_set]; omega) (by omega) h.com.1 (by omega)]
          rfl
        · rw [cf (by rw [Bool.eq_false_iff, ne_eq, Bool.and_eq_true, decide_eq_true_eq, decide_eq_true_eq]; exact h8), if_pos (by
            by_cases hh : ix > (L.length : Int)
            · exact .inr (.inr (.inr (.inr (.inl hh))))
            · exact .inr (.inr (.inr (.inr (.inr (by omega))))))]
end Go.Proofs.YtfadalgikdffeaaGreat.EVT
