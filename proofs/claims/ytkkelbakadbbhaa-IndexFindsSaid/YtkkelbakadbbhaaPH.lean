/- What the printed functions of package segment, and of its reference, compute: recovery. -/
import Derived.Test.YtkkelbakadbbhaaPG
import Derived.Test.YtkkelbakadbbhaaUS
set_option linter.unusedVariables false
set_option linter.unusedSimpArgs false
namespace Go.Proofs.Ytkkelbakadbbhaa.EVT
open Go Go.EV

theorem owned2_eq (a b : List UInt8) (h : a.length + b.length ≤ 2147483647) : g78 a b = some (a ++ b) := by
  unfold g78
  rw [i64w (n := (a.length : Int) + (b.length : Int)) (by omega) (by omega)]
  rw [show ((a.length : Int) + (b.length : Int)).toNat = a.length + b.length from by omega, Int.toNat_natCast]
  have hX : List.take 0 (List.replicate (a.length + b.length) (UInt8.ofNat (Int.toNat 0))) ++ (List.take (List.replicate (a.length + b.length) (UInt8.ofNat (Int.toNat 0))).length a ++ List.drop (0 + (List.take (List.replicate (a.length + b.length) (UInt8.ofNat (Int.toNat 0))).length a).length) (List.replicate (a.length + b.length) (UInt8.ofNat (Int.toNat 0)))) = a ++ List.replicate b.length (UInt8.ofNat (Int.toNat 0)) := by
    simp [List.take_of_length_le]
  rw [hX, ct (by (simp only [ne_eq, Bool.and_eq_true, Bool.or_eq_true, decide_eq_true_eq, beq_iff_eq, bne_iff_ne, Bool.not_eq_true', decide_eq_false_iff_not, and_true, true_and]; omega)), ct (by simp), ct (by simp only [List.length_append, List.length_replicate]; (simp only [ne_eq, Bool.and_eq_true, Bool.or_eq_true, decide_eq_true_eq, beq_iff_eq, bne_iff_ne, Bool.not_eq_true', decide_eq_false_iff_not, and_true, true_and]; omega)), ct (by simp only [List.length_append, List.length_replicate]; (simp only [ne_eq, Bool.and_eq_true, Bool.or_eq_true, decide_eq_true_eq, beq_iff_eq, bne_iff_ne, Bool.not_eq_true', decide_eq_false_iff_not, and_true, true_and]; omega))]
  simp
theorem rcv_loop (b : List UInt8) (hlen : b.length ≤ 4611686018427387) (a1 : Int) (r : Int × Int × List UInt8) : ∀ (d : Nat) (n p : Int) (k : Nat), 0 ≤ p → p ≤ (b.length : Int) → (b.length : Int) - p < d → d ≤ k →
    loopN st59_0 k ((b, a1, n, p), r) = some (.inl ((b, a1, (rcv b d n p).1, (rcv b d n p).2), r)) := by
  intro d
  induction d with
  | zero => intro n p k h0 h1 h2; omega
  | succ d ih =>
    intro n p k h0 h1 h2 hk
    cases k with
    | zero => omega
    | succ k =>
      have ih' := fun n p a b c => ih n p k a b c (by omega)
      rw [loopN_s]; generalize loopN st59_0 k = L at ih' ⊢; dsimp only [st59_0]
      unfold rcv
      by_cases hp : p < (b.length : Int)
      · rw [ct (by (simp only [ne_eq, Bool.and_eq_true, Bool.or_eq_true, decide_eq_true_eq, beq_iff_eq, bne_iff_ne, Bool.not_eq_true', decide_eq_false_iff_not, and_true, true_and]; omega)), Decode_eq b hlen p, if_pos hp]
        simp only [Option.bind_some]
        by_cases he : (rDec b p).2.2.2.2.2 = 0
        · obtain ⟨k1, k2, k3, k4, k5⟩ := rDec_next trivial he
          rw [if_pos he, cf (by (rw [Bool.eq_false_iff]; simp only [ne_eq, Bool.and_eq_true, Bool.or_eq_true, decide_eq_true_eq, beq_iff_eq, bne_iff_ne, Bool.not_eq_true', decide_eq_false_iff_not, and_true, true_and]; omega))]
          by_cases hn : (rDec b p).1 = n
          · rw [if_pos hn, cf (by (rw [Bool.eq_false_iff]; simp only [ne_eq, Bool.and_eq_true, Bool.or_eq_true, decide_eq_true_eq, beq_iff_eq, bne_iff_ne, Bool.not_eq_true', decide_eq_false_iff_not, and_true, true_and]; omega))]
            by_cases hq : (rDec b p).2.2.2.2.1 > 65536
            · rw [if_pos hq, ct (by (simp only [ne_eq, Bool.and_eq_true, Bool.or_eq_true, decide_eq_true_eq, beq_iff_eq, bne_iff_ne, Bool.not_eq_true', decide_eq_false_iff_not, and_true, true_and]; omega))]
            · rw [if_neg hq, cf (by (rw [Bool.eq_false_iff]; simp only [ne_eq, Bool.and_eq_true, Bool.or_eq_true, decide_eq_true_eq, beq_iff_eq, bne_iff_ne, Bool.not_eq_true', decide_eq_false_iff_not, and_true, true_and]; omega)), i64w (by omega) (by omega)]
              exact ih' _ _ (by omega) k3 (by omega)
          · rw [if_neg hn, ct (by (simp only [ne_eq, Bool.and_eq_true, Bool.or_eq_true, decide_eq_true_eq, beq_iff_eq, bne_iff_ne, Bool.not_eq_true', decide_eq_false_iff_not, and_true, true_and]; omega))]
        · rw [if_neg he, ct (by (simp only [ne_eq, Bool.and_eq_true, Bool.or_eq_true, decide_eq_true_eq, beq_iff_eq, bne_iff_ne, Bool.not_eq_true', decide_eq_false_iff_not, and_true, true_and]; omega))]
      · rw [cf (by (rw [Bool.eq_false_iff]; simp only [ne_eq, Bool.and_eq_true, Bool.or_eq_true, decide_eq_true_eq, beq_iff_eq, bne_iff_ne, Bool.not_eq_true', decide_eq_false_iff_not, and_true, true_and]; omega)), if_neg hp]
theorem ref_rcv_loop (b : List UInt8) (hlen : b.length ≤ 4611686018427387) (a1 : Int) (h0a : 0 ≤ a1) (h1a : a1 ≤ 1099511627776) (r : Int × Int × List UInt8) : ∀ (d : Nat) (p i : Int) (k : Nat), 0 ≤ i → i ≤ p → p ≤ (b.length : Int) → (b.length : Int) - p < d → d ≤ k →
    loopN st60_0 k ((b, a1, p, i), r) = some (.inl ((b, a1, (rcv b d (a1 + i) p).2, (rcv b d (a1 + i) p).1 - a1), r)) := by
  intro d
  induction d with
  | zero => intro p i k h0 h1 h2; omega
  | succ d ih =>
    intro p i k hi0 hip h1 h2 hk
    cases k with
    | zero => omega
    | succ k =>
      have ih' := fun p i a b c e => ih p i k a b c e (by omega)
      rw [loopN_s]; generalize loopN st60_0 k = L at ih' ⊢; dsimp only [st60_0]
      unfold rcv
      have hstop : a1 + i - a1 = i := by omega
      by_cases hp : p < (b.length : Int)
      · rw [ct (by (simp only [ne_eq, Bool.and_eq_true, Bool.or_eq_true, decide_eq_true_eq, beq_iff_eq, bne_iff_ne, Bool.not_eq_true', decide_eq_false_iff_not, and_true, true_and]; omega)), ref_Decode_eq b hlen p, if_pos hp]
        simp only [Option.bind_some]
        by_cases he : (rDec b p).2.2.2.2.2 = 0
        · obtain ⟨k1, k2, k3, k4, k5⟩ := rDec_next trivial he
          rw [if_pos he, cf (by (rw [Bool.eq_false_iff]; simp only [ne_eq, Bool.and_eq_true, Bool.or_eq_true, decide_eq_true_eq, beq_iff_eq, bne_iff_ne, Bool.not_eq_true', decide_eq_false_iff_not, and_true, true_and]; omega)), i64w (n := a1 + i) (by omega) (by omega), i64w (n := i + 1) (by omega) (by omega)]
          by_cases hq : (rDec b p).2.2.2.2.1 > 65536
          · rw [ct (by (simp only [ne_eq, Bool.and_eq_true, Bool.or_eq_true, decide_eq_true_eq, beq_iff_eq, bne_iff_ne, Bool.not_eq_true', decide_eq_false_iff_not, and_true, true_and]; omega))]
            by_cases hn : (rDec b p).1 = a1 + i
            · rw [if_pos hn, if_pos hq]; dsimp only; rw [hstop]
            · rw [if_neg hn]; dsimp only; rw [hstop]
          · rw [cf (by (rw [Bool.eq_false_iff]; simp only [ne_eq, Bool.and_eq_true, Bool.or_eq_true, decide_eq_true_eq, beq_iff_eq, bne_iff_ne, Bool.not_eq_true', decide_eq_false_iff_not, and_true, true_and]; omega)), cf (by (rw [Bool.eq_false_iff]; simp only [ne_eq, Bool.and_eq_true, Bool.or_eq_true, decide_eq_true_eq, beq_iff_eq, bne_iff_ne, Bool.not_eq_true', decide_eq_false_iff_not, and_true, true_and]; omega)), cf (by (rw [Bool.eq_false_iff]; simp only [ne_eq, Bool.and_eq_true, Bool.or_eq_true, decide_eq_true_eq, beq_iff_eq, bne_iff_ne, Bool.not_eq_true', decide_eq_false_iff_not, and_true, true_and]; omega))]
            by_cases hn : (rDec b p).1 = a1 + i
            · rw [if_pos hn, if_neg hq, cf (by (rw [Bool.eq_false_iff]; simp only [ne_eq, Bool.and_eq_true, Bool.or_eq_true, decide_eq_true_eq, beq_iff_eq, bne_iff_ne, Bool.not_eq_true', decide_eq_false_iff_not, and_true, true_and]; omega))]
              have := ih' (rDec b p).2.2.2.2.1 (i + 1) (by omega) (by omega) k3 (by omega)
              rw [← Int.add_assoc] at this
              exact this
            · rw [if_neg hn, ct (by (simp only [ne_eq, Bool.and_eq_true, Bool.or_eq_true, decide_eq_true_eq, beq_iff_eq, bne_iff_ne, Bool.not_eq_true', decide_eq_false_iff_not, and_true, true_and]; omega))]; dsimp only; rw [hstop]
        · rw [if_neg he, ct (by (simp only [ne_eq, Bool.and_eq_true, Bool.or_eq_true, decide_eq_true_eq, beq_iff_eq, bne_iff_ne, Bool.not_eq_true', decide_eq_false_iff_not, and_true, true_and]; omega))]; dsimp only; rw [hstop]
      · rw [cf (by (rw [Bool.eq_false_iff]; simp only [ne_eq, Bool.and_eq_true, Bool.or_eq_true, decide_eq_true_eq, beq_iff_eq, bne_iff_ne, Bool.not_eq_true', decide_eq_false_iff_not, and_true, true_and]; omega)), if_neg hp]; dsimp only; rw [hstop]
/-- What is left of bytes: the base, the next offset, the bytes; and how many. -/
def rcvd (b : List UInt8) (a : Int) : (Int × Int × List UInt8) × Int :=
  ((a, (rcv b (b.length + 1) a 0).1, b.take (rcv b (b.length + 1) a 0).2.toNat), (rcv b (b.length + 1) a 0).2)
theorem Recover_eq (b : List UInt8) (hlen : b.length ≤ 2147483647) (a : Int) : g59 b a = some (rcvd b a) := by
  unfold g59 h59_0
  rw [rcv_loop b (by omega) a (0, 0, []) (b.length + 1) a 0 fuel (by omega) (by omega) (by omega) (fuel_gt (by omega))]
  simp only [Option.bind_some]
  obtain ⟨g1, g2⟩ := rcv_in b trivial (b.length + 1) a 0 (by omega) (by omega)
  unfold rcvd
  generalize rcv b (b.length + 1) a 0 = x at *
  rw [ct (by (simp only [ne_eq, Bool.and_eq_true, Bool.or_eq_true, decide_eq_true_eq, beq_iff_eq, bne_iff_ne, Bool.not_eq_true', decide_eq_false_iff_not, and_true, true_and]; omega)), owned2_eq _ _ (by simp; omega)]
  simp
theorem ref_Recover_eq (b : List UInt8) (hlen : b.length ≤ 2147483647) (a : Int) (ha : -9223372036854775808 ≤ a ∧ a ≤ 9223372036854775807) : g60 b a = some (rcvd b a) := by
  unfold g60 h60_0
  obtain ⟨g1, g2⟩ := rcv_in b trivial (b.length + 1) a 0 (by omega) (by omega)
  have key : loopN st60_0 fuel ((b, a, 0, 0), (0, 0, [])) = some (.inl ((b, a, (rcv b (b.length + 1) a 0).2, (rcv b (b.length + 1) a 0).1 - a), (0, 0, []))) ∧ -9223372036854775808 ≤ (rcv b (b.length + 1) a 0).1 ∧ (rcv b (b.length + 1) a 0).1 ≤ 9223372036854775807 := by
    by_cases h : a < 0 ∨ a > 1099511627776
    · rw [rcv_off b trivial _ 0 h]
      refine ⟨?_, ha.1, ha.2⟩
      rw [show fuel = (fuel - 1) + 1 from by rw [fuel_eq], loopN_s]
      generalize loopN st60_0 (fuel - 1) = L
      dsimp only [st60_0]
      rw [Int.sub_self]
      by_cases hp : (0 : Int) < (b.length : Int)
      · rw [ct (by (simp only [ne_eq, Bool.and_eq_true, Bool.or_eq_true, decide_eq_true_eq, beq_iff_eq, bne_iff_ne, Bool.not_eq_true', decide_eq_false_iff_not, and_true, true_and]; omega)), ref_Decode_eq b (by omega) 0]
        simp only [Option.bind_some]
        by_cases he : (rDec b 0).2.2.2.2.2 = 0
        · rw [cf (by (rw [Bool.eq_false_iff]; simp only [ne_eq, Bool.and_eq_true, Bool.or_eq_true, decide_eq_true_eq, beq_iff_eq, bne_iff_ne, Bool.not_eq_true', decide_eq_false_iff_not, and_true, true_and]; omega))]
          by_cases hq : (rDec b 0).2.2.2.2.1 > 65536
          · rw [ct (by (simp only [ne_eq, Bool.and_eq_true, Bool.or_eq_true, decide_eq_true_eq, beq_iff_eq, bne_iff_ne, Bool.not_eq_true', decide_eq_false_iff_not, and_true, true_and]; omega))]
          · rw [cf (by (rw [Bool.eq_false_iff]; simp only [ne_eq, Bool.and_eq_true, Bool.or_eq_true, decide_eq_true_eq, beq_iff_eq, bne_iff_ne, Bool.not_eq_true', decide_eq_false_iff_not, and_true, true_and]; omega))]
            by_cases h1 : a < 0
            · rw [ct (by (simp only [ne_eq, Bool.and_eq_true, Bool.or_eq_true, decide_eq_true_eq, beq_iff_eq, bne_iff_ne, Bool.not_eq_true', decide_eq_false_iff_not, and_true, true_and]; omega))]
            · rw [cf (by (rw [Bool.eq_false_iff]; simp only [ne_eq, Bool.and_eq_true, Bool.or_eq_true, decide_eq_true_eq, beq_iff_eq, bne_iff_ne, Bool.not_eq_true', decide_eq_false_iff_not, and_true, true_and]; omega)), ct (by (simp only [ne_eq, Bool.and_eq_true, Bool.or_eq_true, decide_eq_true_eq, beq_iff_eq, bne_iff_ne, Bool.not_eq_true', decide_eq_false_iff_not, and_true, true_and]; omega))]
        · rw [ct (by (simp only [ne_eq, Bool.and_eq_true, Bool.or_eq_true, decide_eq_true_eq, beq_iff_eq, bne_iff_ne, Bool.not_eq_true', decide_eq_false_iff_not, and_true, true_and]; omega))]
      · rw [cf (by (rw [Bool.eq_false_iff]; simp only [ne_eq, Bool.and_eq_true, Bool.or_eq_true, decide_eq_true_eq, beq_iff_eq, bne_iff_ne, Bool.not_eq_true', decide_eq_false_iff_not, and_true, true_and]; omega))]
    · have := ref_rcv_loop b (by omega) a (by omega) (by omega) (0, 0, []) (b.length + 1) 0 0 fuel (by omega) (by omega) (by omega) (by omega) (fuel_gt (by omega))
      rw [Int.add_zero] at this
      refine ⟨this, ?_⟩
      have hb : ∀ (d : Nat) (n p : Int), 0 ≤ n → n ≤ 1099511627777 → 0 ≤ (rcv b d n p).1 ∧ (rcv b d n p).1 ≤ 1099511627777 := by
        intro d
        induction d with
        | zero => intro n p h0 h1; exact ⟨h0, h1⟩
        | succ d ih =>
          intro n p h0 h1
          unfold rcv
          split
          · split
            · rename_i he
              obtain ⟨_, _, _, g4, g5⟩ := rDec_next (b := b) (p := p) trivial he
              split
              · split
                · exact ⟨h0, h1⟩
                · exact ih _ _ (by omega) (by omega)
              · exact ⟨h0, h1⟩
            · exact ⟨h0, h1⟩
          · exact ⟨h0, h1⟩
      have := hb (b.length + 1) a 0 (by omega) (by omega)
      omega
  obtain ⟨key, k1, k2⟩ := key
  rw [key]
  simp only [Option.bind_some]
  unfold rcvd
  generalize rcv b (b.length + 1) a 0 = x at *
  rw [ct (by (simp only [ne_eq, Bool.and_eq_true, Bool.or_eq_true, decide_eq_true_eq, beq_iff_eq, bne_iff_ne, Bool.not_eq_true', decide_eq_false_iff_not, and_true, true_and]; omega)), ct (by simp; omega), show a + (x.1 - a) = x.1 from by omega, i64w k1 k2]
  simp
theorem awake32 : g47 = some true := by kernel_rfl
theorem Same_self (x : Int × Int × List UInt8) : g50 x.1 x.2.1 x.2.2 x.1 x.2.1 x.2.2 = some true := by
  unfold g50; simp
end Go.Proofs.Ytkkelbakadbbhaa.EVT
