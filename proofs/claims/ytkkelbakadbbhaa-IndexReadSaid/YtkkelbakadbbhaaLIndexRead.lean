/- The law IndexRead: with Build's marks or with none, the same records are read: as many as there are from the offset on, in order. -/
import Derived.Test.YtkkelbakadbbhaaQD
import Derived.Test.YtkkelbakadbbhaaUJ
set_option linter.unusedVariables false
set_option linter.unusedSimpArgs false
namespace Go.Proofs.Ytkkelbakadbbhaa.EVT
open Go Go.EV

theorem ord_loop (V : List Rec) (s : Int) (z : Mark) (y : Int × Int × List UInt8) (hs : 0 ≤ s) (hs1 : s ≤ 1099511627776 ∨ V = []) (hl : V.length ≤ 65536) (hv : ∀ i, i < V.length → (V.getD i (0, 0, [], [])).1 = s + (i : Int)) : ∀ (d i k : Nat), i + d = V.length → d < k →
    loopN st13_0 k ((V, s, (i : Int)), (z, y)) = some (.inl ((V, s), (z, y))) := by
  intro d
  induction d with
  | zero =>
    intro i k hi hd
    cases k with
    | zero => omega
    | succ k =>
      rw [loopN_s]; generalize loopN st13_0 k = LL at *; dsimp only [st13_0]
      rw [cf (by (rw [Bool.eq_false_iff]; simp only [ne_eq, Bool.and_eq_true, Bool.or_eq_true, decide_eq_true_eq, beq_iff_eq, bne_iff_ne, Bool.not_eq_true', decide_eq_false_iff_not, and_true, true_and]; omega))]
  | succ d ih =>
    intro i k hi hd
    cases k with
    | zero => omega
    | succ k =>
      have ih' := ih (i + 1) k (by omega) (by omega)
      have hvi := hv i (by omega)
      have hs2 : s ≤ 1099511627776 := by
        rcases hs1 with h | h
        · exact h
        · rw [h] at hi; simp at hi
      rw [loopN_s]; generalize loopN st13_0 k = LL at ih' ⊢; dsimp only [st13_0]
      rw [ct (by (simp only [ne_eq, Bool.and_eq_true, Bool.or_eq_true, decide_eq_true_eq, beq_iff_eq, bne_iff_ne, Bool.not_eq_true', decide_eq_false_iff_not, and_true, true_and]; omega)), ct (by (simp only [ne_eq, Bool.and_eq_true, Bool.or_eq_true, decide_eq_true_eq, beq_iff_eq, bne_iff_ne, Bool.not_eq_true', decide_eq_false_iff_not, and_true, true_and]; omega)), Int.toNat_natCast, hvi, i64w (n := s + (i : Int)) (by omega) (by omega), i64w (n := (i : Int) + 1) (by omega) (by omega), cf (by simp)]
      exact ih'
theorem law_read (o nx : Int) (b : List UInt8) (a f n : Int) : g13 o nx b a f n = some true := by
  unfold g13
  obtain ⟨v, hv1, hv2⟩ := valid_eq o nx b []
  rw [awake33, hv1]
  simp only [Option.bind_some]
  cases v with
  | false => rfl
  | true =>
    obtain ⟨h1, h2, h3, h4, L, hk, rfl, rfl⟩ := hv2 rfl
    have hL := segB_len L o hk
    have hbl := bldM_len (evr a) o L L.length
    have hg := bld_good (evr a) o L
    have hg0 : Good o L [] := ⟨fun m hm => by simp at hm, fun m _ hm => by simp at hm⟩
    rw [cf (b := !true) rfl, Build_eq hk rfl (by omega)]
    simp only [Option.bind_some]
    rw [Read_eq hk rfl (by omega) _ f n (by omega) hg, Read_eq hk rfl (by omega) _ f n (by simp) hg0]
    simp only [Option.bind_some]
    have hlen := rdR_len f n (recL o L) []
    rw [recL_len] at hlen
    simp only [List.length_nil] at hlen
    rw [SameR_eq _ (by omega)]
    simp only [Option.bind_some]
    rw [cf (b := !true) rfl]
    obtain ⟨J, j1, j2, j3, j4⟩ := rdR_all f n o L
    rw [j4]
    generalize hV : ((recL o L).drop J).take n.toNat = V
    have hVl : V.length = min n.toNat (L.length - J) := by rw [← hV, List.length_take, List.length_drop, recL_len]
    have hVi : ∀ i, i < V.length → (V.getD i (0, 0, [], [])).1 = o + (J : Int) + (i : Int) := by
      intro i hi
      rw [getD_at _ hi]
      subst hV
      rw [List.getElem_take, List.getElem_drop, recL_at L o (J + i) (by omega)]
      show o + ((J + i : Nat) : Int) = _
      omega
    have lp : ∀ s : Int, (V ≠ [] → s = o + (J : Int)) → 0 ≤ s → h13_0 ((V, s, 0), (f, n), o, o + (L.length : Int), segB o L) = some (.inl ((V, s), (f, n), o, o + (L.length : Int), segB o L)) := by
      intro s hs h0
      refine ord_loop V s (f, n) _ h0 ?_ (by omega) ?_ V.length 0 fuel (by omega) (by rw [fuel_eq]; omega)
      · by_cases hn : V = []
        · exact .inr hn
        · have := hs hn
          have h5 : 0 < V.length := List.length_pos_iff.2 hn
          have hok := okL_at L o J (by omega) hk
          obtain ⟨_, c1, _⟩ := chk_zero.1 hok
          exact .inl (by omega)
      · intro i hi
        have hne : V ≠ [] := by intro h; rw [h] at hi; simp at hi
        rw [hVi i hi, hs hne]
    have fn : ∀ s : Int, (V ≠ [] → s = o + (J : Int)) → 0 ≤ s → (s < o + (L.length : Int) → s = o + (J : Int)) → cond (((List.length V : Nat) : Int) == n) (some true)
        (cond (decide (n < 0)) (some true)
          (cond (decide (s ≥ o + (L.length : Int)))
            (cond (((List.length V : Nat) : Int) == 0) (some true)
              (cond (decide (s < o + (L.length : Int))) (cond (IntKind.i64.wrap (s + ((List.length V : Nat) : Int)) == o + (L.length : Int)) (some true) (some false)) (some false)))
            (cond (decide (s < o + (L.length : Int))) (cond (IntKind.i64.wrap (s + ((List.length V : Nat) : Int)) == o + (L.length : Int)) (some true) (some false)) (some false)))) = some true := by
      intro s hs h0 hs2
      by_cases c1 : (V.length : Int) = n
      · rw [ct (by (simp only [ne_eq, Bool.and_eq_true, Bool.or_eq_true, decide_eq_true_eq, beq_iff_eq, bne_iff_ne, Bool.not_eq_true', decide_eq_false_iff_not, and_true, true_and]; omega))]
      · rw [cf (by (rw [Bool.eq_false_iff]; simp only [ne_eq, Bool.and_eq_true, Bool.or_eq_true, decide_eq_true_eq, beq_iff_eq, bne_iff_ne, Bool.not_eq_true', decide_eq_false_iff_not, and_true, true_and]; omega))]
        by_cases c2 : n < 0
        · rw [ct (by (simp only [ne_eq, Bool.and_eq_true, Bool.or_eq_true, decide_eq_true_eq, beq_iff_eq, bne_iff_ne, Bool.not_eq_true', decide_eq_false_iff_not, and_true, true_and]; omega))]
        · rw [cf (by (rw [Bool.eq_false_iff]; simp only [ne_eq, Bool.and_eq_true, Bool.or_eq_true, decide_eq_true_eq, beq_iff_eq, bne_iff_ne, Bool.not_eq_true', decide_eq_false_iff_not, and_true, true_and]; omega))]
          by_cases c3 : s ≥ o + (L.length : Int)
          · have h5 : V.length = 0 := by
              rcases Nat.eq_zero_or_pos V.length with h | h
              · exact h
              · have hne : V ≠ [] := by intro h'; rw [h'] at h; simp at h
                have := hs hne
                omega
            rw [ct (by (simp only [ne_eq, Bool.and_eq_true, Bool.or_eq_true, decide_eq_true_eq, beq_iff_eq, bne_iff_ne, Bool.not_eq_true', decide_eq_false_iff_not, and_true, true_and]; omega)), ct (by (simp only [ne_eq, Bool.and_eq_true, Bool.or_eq_true, decide_eq_true_eq, beq_iff_eq, bne_iff_ne, Bool.not_eq_true', decide_eq_false_iff_not, and_true, true_and]; omega))]
          · have h6 := hs2 (by omega)
            rw [cf (by (rw [Bool.eq_false_iff]; simp only [ne_eq, Bool.and_eq_true, Bool.or_eq_true, decide_eq_true_eq, beq_iff_eq, bne_iff_ne, Bool.not_eq_true', decide_eq_false_iff_not, and_true, true_and]; omega)), ct (by (simp only [ne_eq, Bool.and_eq_true, Bool.or_eq_true, decide_eq_true_eq, beq_iff_eq, bne_iff_ne, Bool.not_eq_true', decide_eq_false_iff_not, and_true, true_and]; omega)), i64w (by omega) (by omega), ct (by (simp only [ne_eq, Bool.and_eq_true, Bool.or_eq_true, decide_eq_true_eq, beq_iff_eq, bne_iff_ne, Bool.not_eq_true', decide_eq_false_iff_not, and_true, true_and]; omega))]
    have s1 : f < o → (V ≠ [] → o = o + (J : Int)) ∧ (o < o + (L.length : Int) → o = o + (J : Int)) := by
      intro hf
      have : J = 0 := by omega
      subst this
      exact ⟨fun _ => by omega, fun _ => by omega⟩
    have s2 : ¬ f < o → (V ≠ [] → f = o + (J : Int)) ∧ (f < o + (L.length : Int) → f = o + (J : Int)) := by
      intro hf
      refine ⟨fun hne => ?_, fun hlt => ?_⟩
      · have h5 : 0 < V.length := List.length_pos_iff.2 hne
        omega
      · omega
    by_cases hn : n ≥ 0
    · rw [ct (by (simp only [ne_eq, Bool.and_eq_true, Bool.or_eq_true, decide_eq_true_eq, beq_iff_eq, bne_iff_ne, Bool.not_eq_true', decide_eq_false_iff_not, and_true, true_and]; omega)), cf (by (rw [Bool.eq_false_iff]; simp only [ne_eq, Bool.and_eq_true, Bool.or_eq_true, decide_eq_true_eq, beq_iff_eq, bne_iff_ne, Bool.not_eq_true', decide_eq_false_iff_not, and_true, true_and]; omega)), cf (by (rw [Bool.eq_false_iff]; simp only [ne_eq, Bool.and_eq_true, Bool.or_eq_true, decide_eq_true_eq, beq_iff_eq, bne_iff_ne, Bool.not_eq_true', decide_eq_false_iff_not, and_true, true_and]; omega))]
      by_cases hf : f < o
      · rw [ct (by (simp only [ne_eq, Bool.and_eq_true, Bool.or_eq_true, decide_eq_true_eq, beq_iff_eq, bne_iff_ne, Bool.not_eq_true', decide_eq_false_iff_not, and_true, true_and]; omega)), lp o (s1 hf).1 h3]
        exact fn o (s1 hf).1 h3 (s1 hf).2
      · rw [cf (by (rw [Bool.eq_false_iff]; simp only [ne_eq, Bool.and_eq_true, Bool.or_eq_true, decide_eq_true_eq, beq_iff_eq, bne_iff_ne, Bool.not_eq_true', decide_eq_false_iff_not, and_true, true_and]; omega)), lp f (s2 hf).1 (by omega)]
        exact fn f (s2 hf).1 (by omega) (s2 hf).2
    · rw [cf (by (rw [Bool.eq_false_iff]; simp only [ne_eq, Bool.and_eq_true, Bool.or_eq_true, decide_eq_true_eq, beq_iff_eq, bne_iff_ne, Bool.not_eq_true', decide_eq_false_iff_not, and_true, true_and]; omega)), ct (by (simp only [ne_eq, Bool.and_eq_true, Bool.or_eq_true, decide_eq_true_eq, beq_iff_eq, bne_iff_ne, Bool.not_eq_true', decide_eq_false_iff_not, and_true, true_and]; omega)), cf (by (rw [Bool.eq_false_iff]; simp only [ne_eq, Bool.and_eq_true, Bool.or_eq_true, decide_eq_true_eq, beq_iff_eq, bne_iff_ne, Bool.not_eq_true', decide_eq_false_iff_not, and_true, true_and]; omega))]
      by_cases hf : f < o
      · rw [ct (by (simp only [ne_eq, Bool.and_eq_true, Bool.or_eq_true, decide_eq_true_eq, beq_iff_eq, bne_iff_ne, Bool.not_eq_true', decide_eq_false_iff_not, and_true, true_and]; omega)), lp o (s1 hf).1 h3]
        exact fn o (s1 hf).1 h3 (s1 hf).2
      · rw [cf (by (rw [Bool.eq_false_iff]; simp only [ne_eq, Bool.and_eq_true, Bool.or_eq_true, decide_eq_true_eq, beq_iff_eq, bne_iff_ne, Bool.not_eq_true', decide_eq_false_iff_not, and_true, true_and]; omega)), lp f (s2 hf).1 (by omega)]
        exact fn f (s2 hf).1 (by omega) (s2 hf).2
theorem IndexRead {a0 : Ty.den (.st (.pr (.i .i64) (.pr (.i .i64) (.sl .u8))))} {a1 : Ty.den (.i .i64)} {a2 : Ty.den (.st (.pr (.i .i64) (.i .i64)))} (h0 : Bd _ a0) (h1 : Bd _ a1) (h2 : Bd _ a2) : i13.G (a0, a1, a2) = some true := law_read a0.1 a0.2.1 a0.2.2 a1 a2.1 a2.2
end Go.Proofs.Ytkkelbakadbbhaa.EVT
