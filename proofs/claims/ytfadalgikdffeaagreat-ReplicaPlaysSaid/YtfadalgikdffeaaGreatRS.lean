/- Replicated logs: the reference's calls answer alike. -/
import Derived.Test.YtfadalgikdffeaaGreatSC
import Derived.Test.YtfadalgikdffeaaGreatUR
set_option linter.unusedVariables false
set_option linter.unusedSimpArgs false
namespace Go.Proofs.YtfadalgikdffeaaGreat.EVT
open Go Go.EV

theorem g36_eq {nd ns tm rl vd ld cm : Int} {vs : List Int} {L : Lg} {mt : List Int} (h1 : vs.length ≤ 7) (h2 : L.length ≤ 2147483647) (h3 : mt.length ≤ 2147483647) :
    g36 nd ns tm rl vd ld vs cm L mt = some ((nd, ns, tm, rl, vd, ld, vs), cm, L, mt) := by
  unfold g36
  rw [g68_eq h1]
  show Option.bind (cond (decide (L.length ≤ 2147483647)) (some L) none) (fun v2 => Option.bind (cond (decide (mt.length ≤ 2147483647)) (some mt) none) fun v3 => some ((nd, ns, tm, rl, vd, ld, vs), cm, v2, v3)) = _
  rw [clone_some h2, clone_some h3]
  rfl
def settR (r : Rep) (before : Bool) : Rep := if r.1.2.2.2.1 ≠ 2 then (r.1, r.2.1, r.2.2.1, []) else if before then r else beginR r
theorem g38_eq {nd ns tm rl vd ld cm : Int} {vs : List Int} {L : Lg} {mt : List Int} (hn : okN nd ns) (b : Bool) : g38 nd ns tm rl vd ld vs cm L mt b = some (settR ((nd, ns, tm, rl, vd, ld, vs), cm, L, mt) b) := by
  unfold okN at hn
  unfold g38 settR g27
  simp only [Option.bind_some]
  by_cases h : rl = 2
  · rw [cf (by simpa using h), if_neg (by simpa using h)]
    cases b with
    | true => rw [cf (b := !true) rfl]; rfl
    | false =>
      rw [ct (b := !false) rfl, ct (by (simp only [ne_eq, Bool.and_eq_true, Bool.or_eq_true, decide_eq_true_eq, beq_iff_eq, bne_iff_ne, Bool.not_eq_true', decide_eq_false_iff_not, and_true, true_and]; omega)), List.length_replicate, ct (in_rng (by omega) (by omega)), ct (decide_eq_true (by omega))]
      rfl
  · rw [ct (by simpa using h), if_pos (by simpa using h)]
theorem refT {L : Lg} {a : Int} (hL : L.length ≤ 5000) (h0 : 0 ≤ a) (h1 : a ≤ (L.length : Int)) : g26 L a = some (trm L a.toNat) := by
  have := g26_eq (L := L) (a := a.toNat) hL (by omega)
  rw [show ((a.toNat : Nat) : Int) = a by omega] at this
  exact this
theorem g9_eq {nd ns tm rl vd ld cm : Int} {vs : List Int} {L : Lg} {mt : List Int} (h : okR ((nd, ns, tm, rl, vd, ld, vs), cm, L, mt)) :
    g9 nd ns tm rl vd ld vs cm L mt = some (tmoR ((nd, ns, tm, rl, vd, ld, vs), cm, L, mt)) := by
  have hv : vs.length ≤ 7 := okB_len h.bal
  have hm7 : mt.length ≤ 7 := h.mlen7
  have hL : L.length ≤ 4096 := h.len
  unfold g9 tmoR
  rw [g36_eq hv (by omega) (by omega)]
  unfold g27
  simp only [Option.bind_some]
  by_cases h3 : rl = 2
  · rw [ct (by simpa using h3), if_pos h3]
  rw [cf (by simpa using h3), if_neg h3, refT (by omega) (by omega) (by omega), Int.toNat_natCast]
  simp only [Option.bind_some]
  rw [g37_eq _ _ h.bal]
  simp only [Option.bind_some]
  have hk := (camp_keeps h.bal).1
  have hn := (chk_iff.1 hk).1
  have hmt : mt = [] := by
    have hml : (mt.length : Int) = wantM (nd, ns, tm, rl, vd, ld, vs) := h.mlen
    unfold wantM at hml
    rw [if_neg h3] at hml
    exact List.length_eq_zero_iff.1 (by omega)
  subst hmt
  generalize camp (nd, ns, tm, rl, vd, ld, vs) = b at *
  rw [g38_eq hn]
  unfold settR
  simp only [Option.bind_some]
  by_cases h4 : b.2.2.2.1 = 2
  · rw [if_neg (by simpa using h4), if_pos h4, if_neg (by decide)]
  · rw [if_pos h4, if_neg h4]
theorem beat_loopR {r : Rep} (h : okR r) (hl : r.1.2.2.2.1 = 2) : ∀ (k j n : Nat) (W : List Let), (k : Int) + j = r.1.2.1 → k < n → W.length ≤ j →
    loopN st19_0 n ((r.1.2.1, (j : Int)), W, r) = some (.inl ((), W ++ beatN r k j))
  | 0, j, n + 1, W, hk, hn, hw => by
    obtain ⟨⟨c1, c2, c3, c4, c5, c6, c7⟩, d1, d2, d3⟩ := r
    rw [loopN_s]; dsimp only [st19_0]
    dsimp only at hk
    rw [cf (decide_eq_false (by omega))]
    simp [beatN]
  | k + 1, j, n + 1, W, hk, hn, hw => by
    have ih := fun W hw => beat_loopR h hl k (j + 1) n W (by omega) (by omega) hw
    obtain ⟨⟨c1, c2, c3, c4, c5, c6, c7⟩, d1, d2, d3⟩ := r
    have hL : d2.length ≤ 4096 := h.len
    have hn' : okN c1 c2 := h.nodes
    have hml : (d3.length : Int) = wantM (c1, c2, c3, c4, c5, c6, c7) := h.mlen
    have hml2 : (d3.length : Int) = c2 := by rw [hml]; unfold wantM; rw [if_pos hl]
    unfold okN at hn'
    have hm := getD_rng (n := j) h.mrng (by dsimp only; omega)
    dsimp only at hk hl hm ih
    rw [loopN_s]; generalize hLL : loopN st19_0 n = LL at ih ⊢; dsimp only [st19_0]
    rw [ct (decide_eq_true (by omega)), wrap_in (n := (j : Int) + 1) (by omega), show ((j : Int) + 1) = ((j + 1 : Nat) : Int) by omega]
    unfold beatN
    dsimp only
    by_cases h1 : (j : Int) = c1
    · rw [ct (by simpa using h1), if_pos h1]
      exact ih W (by omega)
    · rw [cf (by simpa using h1), if_neg h1, ct (in_rng (by omega) (by omega)), Int.toNat_natCast, refT (by omega) hm.1 hm.2]
      generalize hx : d3.getD j 0 = x at *
      simp only [Option.bind_some]
      rw [wrap_in (by omega)]
      rw [mn_eq (d2.length : Int) (x + 32)]
      have e1 : min (d2.length : Int) (x + 32) ≤ d2.length := by omega
      have e2 : x ≤ min (d2.length : Int) (x + 32) := by omega
      rw [ct (by simp only [Bool.and_eq_true, decide_eq_true_eq, and_true]; omega)]
      have e3 : (List.drop x.toNat (List.take (min (d2.length : Int) (x + 32)).toNat d2)) = (d2.drop x.toNat).take 32 := by
        rw [List.drop_take]
        by_cases hh : (d2.length : Int) ≤ x + 32
        · rw [show (min (d2.length : Int) (x + 32)).toNat - x.toNat = (d2.drop x.toNat).length by rw [List.length_drop]; omega, List.take_length, List.take_of_length_le (by rw [List.length_drop]; omega)]
        · rw [show (min (d2.length : Int) (x + 32)).toNat - x.toNat = 32 by omega]
      show Option.bind (cond (decide ((List.drop x.toNat (List.take (min (d2.length : Int) (x + 32)).toNat d2)).length ≤ 2147483647)) (some (List.drop x.toNat (List.take (min (d2.length : Int) (x + 32)).toNat d2))) none) (fun v2 : Lg => cond (decide (W.length + 1 ≤ 2147483647)) (LL ((c2, ((j + 1 : Nat) : Int)), W ++ [(3, c1, (j : Int), c3, x, trm d2 x.toNat, d1, false, v2)], (c1, c2, c3, c4, c5, c6, c7), d1, d2, d3)) none) = _
      rw [e3, clone_some (by rw [List.length_take]; omega)]
      simp only [Option.bind_some]
      rw [ct (decide_eq_true (by omega)), ih (W ++ [_]) (by simp; omega)]
      rw [List.append_assoc, List.singleton_append]
      unfold beatL
      dsimp only
      rw [hx]
theorem g19_eq {nd ns tm rl vd ld cm : Int} {vs : List Int} {L : Lg} {mt : List Int} (h : okR ((nd, ns, tm, rl, vd, ld, vs), cm, L, mt)) :
    g19 nd ns tm rl vd ld vs cm L mt = some (beatR ((nd, ns, tm, rl, vd, ld, vs), cm, L, mt)) := by
  have hn : okN nd ns := h.nodes
  unfold okN at hn
  unfold g19 g27 beatR
  simp only [Option.bind_some]
  by_cases h3 : rl = 2
  · rw [cf (by simpa using h3), if_pos h3]
    have hb := beat_loopR h h3 ns.toNat 0 fuel [] (by dsimp only; omega) (by rw [fuel_eq]; omega) (by simp)
    have hb' : h19_0 ((ns, 0), [], (nd, ns, tm, rl, vd, ld, vs), cm, L, mt) = _ := hb
    rw [hb']
    rfl
  · rw [ct (by simpa using h3), if_neg h3]
theorem has_loopR {k : Int} (mt : List Int) (z r : Rep) (hl : mt.length ≤ 1000) : ∀ (d j n acc : Nat), j + d = mt.length → d < n → acc ≤ j →
    loopN st40_1 n ((k, (acc : Int), mt, (mt.length : Int), (j : Int)), z, r) = some (.inl ((k, ((acc + hasN (mt.drop j) k : Nat) : Int)), z, r))
  | 0, j, n + 1, acc, hj, hn, h1 => by
    obtain ⟨⟨c1, c2, c3, c4, c5, c6, c7⟩, d1, d2, d3⟩ := z
    obtain ⟨⟨e1, e2, e3, e4, e5, e6, e7⟩, f1, f2, f3⟩ := r
    have : mt.drop j = [] := List.drop_eq_nil_of_le (by omega)
    rw [loopN_s]; dsimp only [st40_1]
    rw [cf (decide_eq_false (by omega)), this]
    simp [hasN]
  | d + 1, j, n + 1, acc, hj, hn, h1 => by
    have ih := fun acc h => has_loopR (k := k) mt z r hl d (j + 1) n acc (by omega) (by omega) h
    obtain ⟨⟨c1, c2, c3, c4, c5, c6, c7⟩, d1, d2, d3⟩ := z
    obtain ⟨⟨e1, e2, e3, e4, e5, e6, e7⟩, f1, f2, f3⟩ := r
    have hj' : j < mt.length := by omega
    rw [loopN_s]; dsimp only [st40_1]
    rw [ct (decide_eq_true (by omega)), ct (in_rng (by omega) (by omega)), Int.toNat_natCast, getD_at 0 hj', List.drop_eq_getElem_cons hj', wrap_in (n := (j : Int) + 1) (by omega)]
    rw [show ((j : Int) + 1) = ((j + 1 : Nat) : Int) by omega]
    by_cases h : mt[j] ≥ k
    · rw [ct (decide_eq_true h), wrap_in (by omega), show (acc : Int) + 1 = ((acc + 1 : Nat) : Int) by omega, ih (acc + 1) (by omega)]
      have : hasN (mt[j] :: mt.drop (j + 1)) k = hasN (mt.drop (j + 1)) k + 1 := by
        unfold hasN; rw [List.filter_cons_of_pos (by simpa using h)]; simp
      rw [this, show acc + 1 + hasN (mt.drop (j + 1)) k = acc + (hasN (mt.drop (j + 1)) k + 1) by omega]
    · rw [cf (decide_eq_false h), ih acc (by omega)]
      have : hasN (mt[j] :: mt.drop (j + 1)) k = hasN (mt.drop (j + 1)) k := by
        unfold hasN; rw [List.filter_cons_of_neg (by simpa using h)]
      rw [this]
theorem com_loopR {nd ns tm rl vd ld cm : Int} {vs : List Int} {L : Lg} {mt : List Int} (z : Rep) (hl : mt.length ≤ 1000) (hL : L.length ≤ 5000) (hc : 0 ≤ cm) (hns : ns ≤ 7) : ∀ (k n : Nat), k ≤ L.length → k < n →
    loopN st40_0 n ((k : Int), z, (nd, ns, tm, rl, vd, ld, vs), cm, L, mt) = some (.inl ((), z, (nd, ns, tm, rl, vd, ld, vs), comN (nd, ns, tm, rl, vd, ld, vs) L mt cm k, L, mt))
  | 0, n + 1, hk, hn => by
    obtain ⟨⟨c1, c2, c3, c4, c5, c6, c7⟩, d1, d2, d3⟩ := z
    rw [loopN_s]; dsimp only [st40_0]
    rw [cf (decide_eq_false (by omega))]
    rfl
  | k + 1, n + 1, hk, hn => by
    have ih := com_loopR (nd := nd) (ns := ns) (tm := tm) (rl := rl) (vd := vd) (ld := ld) (vs := vs) z hl hL hc hns k n (by omega) (by omega)
    obtain ⟨⟨c1, c2, c3, c4, c5, c6, c7⟩, d1, d2, d3⟩ := z
    rw [loopN_s]; dsimp only [st40_0]
    unfold comN
    by_cases h1 : ((k + 1 : Nat) : Int) > cm
    · have hh := has_loopR (k := ((k + 1 : Nat) : Int)) mt ((c1, c2, c3, c4, c5, c6, c7), d1, d2, d3) ((nd, ns, tm, rl, vd, ld, vs), cm, L, mt) hl mt.length 0 fuel 0 (by omega) (by rw [fuel_eq]; omega) (by omega)
      have hh' : h40_1 ((((k + 1 : Nat) : Int), 0, mt, (mt.length : Int), 0), ((c1, c2, c3, c4, c5, c6, c7), d1, d2, d3), (nd, ns, tm, rl, vd, ld, vs), cm, L, mt) = _ := hh
      rw [ct (decide_eq_true h1), if_pos h1, hh']
      simp only [Option.bind_some, List.drop_zero, Nat.zero_add]
      rw [refT hL (by omega) (by omega), wrap_in (by omega), show ((k + 1 : Nat) : Int) - 1 = (k : Int) by omega, ih, Int.toNat_natCast]
      simp only [Option.bind_some]
      by_cases h2 : trm L (k + 1) = tm
      · rw [ct (by (simp only [ne_eq, Bool.and_eq_true, Bool.or_eq_true, decide_eq_true_eq, beq_iff_eq, bne_iff_ne, Bool.not_eq_true', decide_eq_false_iff_not, and_true, true_and]; omega)), g72_eq _ _ (by omega)]
        simp only [Option.bind_some]
        by_cases h3 : quo (hasN mt ((k + 1 : Nat) : Int)) ns = true
        · rw [if_pos ⟨h2, h3⟩, ct h3]
        · rw [if_neg (fun e => h3 e.2), cf (by simpa using h3)]
      · rw [cf (by (rw [Bool.eq_false_iff]; simp only [ne_eq, Bool.and_eq_true, Bool.or_eq_true, decide_eq_true_eq, beq_iff_eq, bne_iff_ne, Bool.not_eq_true', decide_eq_false_iff_not, and_true, true_and]; omega)), if_neg (fun e => h2 e.1)]
    · rw [cf (decide_eq_false h1), if_neg h1]
theorem g40_eq {nd ns tm rl vd ld cm : Int} {vs : List Int} {L : Lg} {mt : List Int} (hl : mt.length ≤ 1000) (hL : L.length ≤ 5000) (hc : 0 ≤ cm) (hns : ns ≤ 7) :
    g40 nd ns tm rl vd ld vs cm L mt = some (commitR ((nd, ns, tm, rl, vd, ld, vs), cm, L, mt)) := by
  unfold g40
  have h := com_loopR (nd := nd) (tm := tm) (rl := rl) (vd := vd) (ld := ld) (vs := vs) ((0, 0, 0, 0, 0, 0, []), 0, [], []) hl hL hc hns L.length fuel (by omega) (by rw [fuel_eq]; omega)
  have h' : h40_0 ((L.length : Int), ((0, 0, 0, 0, 0, 0, []), 0, [], []), (nd, ns, tm, rl, vd, ld, vs), cm, L, mt) = _ := h
  rw [h']
  rfl
theorem g11_eq {nd ns tm rl vd ld cm : Int} {vs : List Int} {L : Lg} {mt : List Int} (x : List UInt8) (h : okR ((nd, ns, tm, rl, vd, ld, vs), cm, L, mt)) :
    g11 nd ns tm rl vd ld vs cm L mt x = some (if proE ((nd, ns, tm, rl, vd, ld, vs), cm, L, mt) x = 0 then (propR ((nd, ns, tm, rl, vd, ld, vs), cm, L, mt) x, ((L.length + 1 : Nat) : Int), 0) else (((0, 0, 0, 0, 0, 0, []), 0, [], []), 0, proE ((nd, ns, tm, rl, vd, ld, vs), cm, L, mt) x)) := by
  have hv : vs.length ≤ 7 := okB_len h.bal
  have hm7 : mt.length ≤ 7 := h.mlen7
  have hL : L.length ≤ 4096 := h.len
  have hcm : 0 ≤ cm := h.com.1
  have hn : okN nd ns := h.nodes
  have hml : (mt.length : Int) = wantM (nd, ns, tm, rl, vd, ld, vs) := h.mlen
  unfold okN at hn
  unfold g11 g27
  simp only [Option.bind_some]
  by_cases h1 : rl = 2
  rotate_left
  · have e : proE ((nd, ns, tm, rl, vd, ld, vs), cm, L, mt) x = 24 := by unfold proE; rw [if_pos h1]
    rw [ct (by simpa using h1), e, if_neg (by decide)]
  have hml2 : (mt.length : Int) = ns := by rw [hml]; unfold wantM; rw [if_pos h1]
  rw [cf (by simpa using h1)]
  by_cases h2 : (x.length : Int) > 65536
  · have e : proE ((nd, ns, tm, rl, vd, ld, vs), cm, L, mt) x = 5 := by unfold proE; rw [if_neg (by simpa using h1), if_pos (by omega)]
    rw [ct (decide_eq_true h2), e, if_neg (by decide)]
  rw [cf (decide_eq_false h2)]
  by_cases h3 : (L.length : Int) ≥ 4096
  · have e : proE ((nd, ns, tm, rl, vd, ld, vs), cm, L, mt) x = 6 := by unfold proE; rw [if_neg (by simpa using h1), if_neg (by omega), if_pos (by dsimp only; omega)]
    rw [ct (decide_eq_true h3), e, if_neg (by decide)]
  have e : proE ((nd, ns, tm, rl, vd, ld, vs), cm, L, mt) x = 0 := by unfold proE; rw [if_neg (by simpa using h1), if_neg (by omega), if_neg (by dsimp only; omega)]
  rw [cf (decide_eq_false h3), g36_eq hv (by omega) (by omega), e, if_pos rfl]
  simp only [Option.bind_some]
  rw [ct (decide_eq_true (by omega)), ct (in_rng (by omega) (by omega)), ct (decide_eq_true (by omega))]
  rw [g40_eq (by rw [List.length_set]; omega) (by simp; omega) hcm (by omega)]
  simp only [Option.bind_some, List.length_append, List.length_singleton]
  rfl
theorem g16_eq {nd ns tm rl vd ld cm : Int} {vs : List Int} {L : Lg} {mt : List Int} (hL : L.length ≤ 4096) :
    g16 nd ns tm rl vd ld vs cm L mt = some (rstR ((nd, ns, tm, rl, vd, ld, vs), cm, L, mt)) := by
  show Option.bind (cond (decide (L.length ≤ 2147483647)) (some L) none) (fun v1 => some ((nd, ns, tm, 0, vd, -1, []), 0, v1, [])) = _
  rw [clone_some (by omega)]
  rfl
theorem cmt_loopR (A : Lg) (hA : A.length ≤ 5000) : ∀ (d j n : Nat), j + d = A.length → d < n →
    loopN st22_0 n ((A, (A.length : Int), (j : Int)), (A.take j).map (·.2)) = some (.inl ((), A.map (·.2)))
  | 0, j, n + 1, hj, hn => by
    rw [loopN_s]; dsimp only [st22_0]
    rw [cf (decide_eq_false (by omega)), List.take_of_length_le (by omega)]
  | d + 1, j, n + 1, hj, hn => by
    have ih := cmt_loopR A hA d (j + 1) n (by omega) (by omega)
    have hj' : j < A.length := by omega
    rw [loopN_s]; generalize loopN st22_0 n = LL at ih ⊢; dsimp only [st22_0]
    rw [ct (decide_eq_true (by omega)), ct (in_rng (by omega) (by omega)), ct (decide_eq_true (by rw [List.length_map, List.length_take]; omega)), wrap_in (by omega), show ((j : Int) + 1) = ((j + 1 : Nat) : Int) by omega, Int.toNat_natCast, getD_at _ hj']
    rw [List.take_add_one, List.getElem?_eq_getElem hj', List.map_append] at ih
    exact ih
theorem g22_eq {nd ns tm rl vd ld cm : Int} {vs : List Int} {L : Lg} {mt : List Int} (hL : L.length ≤ 4096) (hc : 0 ≤ cm ∧ cm ≤ (L.length : Int)) :
    g22 nd ns tm rl vd ld vs cm L mt = some (cmtR ((nd, ns, tm, rl, vd, ld, vs), cm, L, mt)) := by
  unfold g22 cmtR
  rw [ct (in_rng2 hc.1 hc.2), List.drop_zero]
  have hl := cmt_loopR (L.take cm.toNat) (by rw [List.length_take]; omega) (L.take cm.toNat).length 0 fuel (by omega) (by rw [fuel_eq, List.length_take]; omega)
  rw [List.take_zero, List.map_nil] at hl
  have hl' : h22_0 ((L.take cm.toNat, ((L.take cm.toNat).length : Int), 0), []) = _ := hl
  rw [hl']
  rfl
theorem sound_loopR {es : Lg} (hl : es.length ≤ 1000) (l : Let) : ∀ (d j n : Nat) (p : Int), j + d = es.length → d < n →
    loopN st53_0 n ((p, es, (es.length : Int), (j : Int)), l) = some (if soundE l.2.2.2.1 p (es.drop j) then .inl ((), ()) else .inr false)
  | 0, j, n + 1, p, hj, hn => by
    obtain ⟨l1, l2, l3, l4, l5, l6, l7, l8, l9⟩ := l
    have : es.drop j = [] := List.drop_eq_nil_of_le (by omega)
    rw [loopN_s]; dsimp only [st53_0]
    rw [cf (decide_eq_false (by omega)), this]
    simp [soundE]
  | d + 1, j, n + 1, p, hj, hn => by
    have ih := fun p => sound_loopR hl l d (j + 1) n p (by omega) (by omega)
    obtain ⟨l1, l2, l3, l4, l5, l6, l7, l8, l9⟩ := l
    have hj' : j < es.length := by omega
    rw [loopN_s]; dsimp only [st53_0]
    rw [ct (decide_eq_true (by omega)), ct (in_rng (by omega) (by omega)), Int.toNat_natCast, getD_at _ hj', List.drop_eq_getElem_cons hj', wrap_in (by omega), show ((j : Int) + 1) = ((j + 1 : Nat) : Int) by omega, ih, g25_eq]
    simp only [Option.bind_some]
    have e0 : soundE l4 p (es[j] :: es.drop (j + 1)) = if es[j].1 < p then false else if es[j].1 > l4 then false else if es[j].2.length > 65536 then false else soundE l4 es[j].1 (es.drop (j + 1)) := rfl
    simp only [e0]
    by_cases h1 : es[j].1 < p
    · rw [ct (by simp; omega)]; simp [h1]
    · rw [if_neg h1]
      by_cases h2 : es[j].1 > l4
      · rw [ct (by simp; omega)]; simp [h2]
      · rw [cf (by simp; omega), if_neg h2]
        by_cases h3 : es[j].2.length > 65536
        · rw [ct (decide_eq_true (by omega))]; simp [h3]
        · rw [cf (decide_eq_false (by omega)), if_neg h3]
theorem g53_eq (kd fr tu te ix pr cm : Int) (ye : Bool) (es : Lg) : g53 kd fr tu te ix pr cm ye es = some (soundR te ix pr cm es) := by
  unfold g53 soundR
  rw [mx_eq 1 pr, Int.max_comm 1 pr, g25_eq, g25_eq]
  simp only [Option.bind_some]
  by_cases h1 : 0 ≤ ix ∧ ix ≤ 4096
  rotate_left
  · rw [ct (by simp; omega), if_pos (by omega)]
  rw [cf (by simp; omega)]
  by_cases h3 : cm < 0
  · rw [ct (decide_eq_true h3), if_pos (by omega)]
  rw [cf (decide_eq_false h3)]
  by_cases h4 : (es.length : Int) > 32
  · rw [ct (decide_eq_true h4), if_pos (by omega)]
  rw [cf (decide_eq_false h4), if_neg (by omega)]
  have hl := sound_loopR (es := es) (by omega) (kd, fr, tu, te, ix, pr, cm, ye, es) es.length 0 fuel (max pr 1) (by omega) (by rw [fuel_eq]; omega)
  have hl' : h53_0 ((max pr 1, es, (es.length : Int), 0), kd, fr, tu, te, ix, pr, cm, ye, es) = _ := hl
  rw [hl', List.drop_zero]
  by_cases h5 : ix = 0
  · rw [ct (by simpa using h5)]
    by_cases h6 : pr = 0
    · have e : (if ix = 0 ∧ pr ≠ 0 ∨ ix > 0 ∧ (pr < 1 ∨ pr > te) then false else soundE te (max pr 1) es) = soundE te (max pr 1) es := if_neg (by omega)
      rw [cf (by simpa using h6), cf (decide_eq_false (by omega)), e]
      cases soundE te (max pr 1) es <;> rfl
    · rw [ct (by simpa using h6), if_pos (by omega)]
  · rw [cf (by simpa using h5), ct (decide_eq_true (by omega))]
    by_cases h6 : 1 ≤ pr ∧ pr ≤ te
    · have e : (if ix = 0 ∧ pr ≠ 0 ∨ ix > 0 ∧ (pr < 1 ∨ pr > te) then false else soundE te (max pr 1) es) = soundE te (max pr 1) es := if_neg (by omega)
      rw [cf (by simp; omega), e]
      cases soundE te (max pr 1) es <;> rfl
    · rw [ct (by simp; omega), if_pos (by omega)]
end Go.Proofs.YtfadalgikdffeaaGreat.EVT
