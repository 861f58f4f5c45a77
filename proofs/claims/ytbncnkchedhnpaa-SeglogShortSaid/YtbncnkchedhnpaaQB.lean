/- What the printed functions of package segment, and of its reference, compute: recovery. -/
import Derived.Test.YtbncnkchedhnpaaQA
import Derived.Test.YtbncnkchedhnpaaUS
set_option linter.unusedVariables false
set_option linter.unusedSimpArgs false
namespace Go.Proofs.Ytbncnkchedhnpaa.EVT
open Go Go.EV

theorem owned2_eq (a b : List UInt8) (h : a.length + b.length ≤ 2147483647) : g48 a b = some (a ++ b) := by
  unfold g48
  rw [i64w (n := (a.length : Int) + (b.length : Int)) (by omega) (by omega)]
  rw [show ((a.length : Int) + (b.length : Int)).toNat = a.length + b.length from by omega, Int.toNat_natCast]
  have hX : List.take 0 (List.replicate (a.length + b.length) (UInt8.ofNat (Int.toNat 0))) ++ (List.take (List.replicate (a.length + b.length) (UInt8.ofNat (Int.toNat 0))).length a ++ List.drop (0 + (List.take (List.replicate (a.length + b.length) (UInt8.ofNat (Int.toNat 0))).length a).length) (List.replicate (a.length + b.length) (UInt8.ofNat (Int.toNat 0)))) = a ++ List.replicate b.length (UInt8.ofNat (Int.toNat 0)) := by
    simp [List.take_of_length_le]
  rw [hX, ct (by (simp only [ne_eq, Bool.and_eq_true, Bool.or_eq_true, decide_eq_true_eq, beq_iff_eq, bne_iff_ne, Bool.not_eq_true', decide_eq_false_iff_not, and_true, true_and]; omega)), ct (by simp), ct (by simp only [List.length_append, List.length_replicate]; (simp only [ne_eq, Bool.and_eq_true, Bool.or_eq_true, decide_eq_true_eq, beq_iff_eq, bne_iff_ne, Bool.not_eq_true', decide_eq_false_iff_not, and_true, true_and]; omega)), ct (by simp only [List.length_append, List.length_replicate]; (simp only [ne_eq, Bool.and_eq_true, Bool.or_eq_true, decide_eq_true_eq, beq_iff_eq, bne_iff_ne, Bool.not_eq_true', decide_eq_false_iff_not, and_true, true_and]; omega))]
  simp
/-- What is left of bytes: the base, the next offset, the bytes; and how many. -/
def rcvd (b : List UInt8) (a : Int) : (Int × Int × List UInt8) × Int :=
  ((a, (rcv b (b.length + 1) a 0).1, b.take (rcv b (b.length + 1) a 0).2.toNat), (rcv b (b.length + 1) a 0).2)
theorem Same_self (x : Int × Int × List UInt8) : g60 x.1 x.2.1 x.2.2 x.1 x.2.1 x.2.2 = some true := by
  unfold g60; simp
end Go.Proofs.Ytbncnkchedhnpaa.EVT
/- What is recovered from the torn bytes of records. -/
set_option linter.unusedVariables false
set_option linter.unusedSimpArgs false
namespace Go.Proofs.Ytbncnkchedhnpaa.EVT
open Go Go.EV

/-- How many of the records, and bytes, fit wholly into m bytes. -/
def fit : Int → List RV → Nat → Nat × Nat
  | _, [], _ => (0, 0)
  | o, (n, s, v) :: r, m => if (rec_ o n s v).length ≤ m then ((fit (o + 1) r (m - (rec_ o n s v).length)).1 + 1, (rec_ o n s v).length + (fit (o + 1) r (m - (rec_ o n s v).length)).2) else (0, 0)
theorem fit_le : ∀ (L : List RV) (o : Int) (m : Nat), (fit o L m).1 ≤ L.length ∧ (fit o L m).2 ≤ m ∧ (fit o L m).2 = (segB o (L.take (fit o L m).1)).length
  | [], o, m => by simp [fit, segB]
  | (n, s, v) :: r, o, m => by
    unfold fit
    by_cases h : (rec_ o n s v).length ≤ m
    · obtain ⟨i1, i2, i3⟩ := fit_le r (o + 1) (m - (rec_ o n s v).length)
      rw [if_pos h]
      refine ⟨by simp; omega, by dsimp only; omega, ?_⟩
      simp only [List.take_succ_cons, segB, List.length_append]
      rw [← i3]
    · rw [if_neg h]; simp [segB]
theorem fit_take : ∀ (L : List RV) (o : Int) (m : Nat), (segB o L).take (fit o L m).2 = segB o (L.take (fit o L m).1)
  | [], o, m => by simp [fit, segB]
  | (n, s, v) :: r, o, m => by
    unfold fit
    by_cases h : (rec_ o n s v).length ≤ m
    · rw [if_pos h]
      simp only [List.take_succ_cons, segB]
      rw [List.take_append, List.take_of_length_le (by omega), Nat.add_sub_cancel_left, fit_take r (o + 1) _]
    · rw [if_neg h]; simp [segB]
theorem rDec_torn (pre : List UInt8) {o n : Int} {s v : List UInt8} (hc : chk o n s v = 0) {m : Nat} (hm : m < (rec_ o n s v).length) : (rDec (pre ++ (rec_ o n s v).take m) (pre.length : Int)).2.2.2.2.2 = 3 := by
  have hp := pld_len hc
  have h := rNext_torn pre (pld o n s v) m (by omega) hm
  have h2 : rNext (pre ++ (rec_ o n s v).take m) (pre.length : Int) = ([], 0, 3) := h
  rw [rDec_err (by rw [h2]; decide), h2]
theorem rcv_torn : ∀ (L : List RV) (o : Int) (m d : Nat) (pre : List UInt8), okL o L → pre.length + m ≤ 65536 → m < d →
    rcv (pre ++ (segB o L).take m) d o (pre.length : Int) = (o + ((fit o L m).1 : Int), (pre.length : Int) + ((fit o L m).2 : Int))
  | L, o, m, 0, pre, _, _, hd => by omega
  | [], o, m, d + 1, pre, _, _, _ => by
    unfold rcv
    rw [if_neg (by simp [segB])]
    simp [fit]
  | (n, s, v) :: r, o, m, d + 1, pre, hk, hm, hd => by
    have hr := rec_len hk.1
    unfold rcv fit
    by_cases h : (rec_ o n s v).length ≤ m
    · rw [if_pos h]
      have e : pre ++ (segB o ((n, s, v) :: r)).take m = pre ++ (rec_ o n s v ++ (segB (o + 1) r).take (m - (rec_ o n s v).length)) := by
        simp only [segB]
        rw [List.take_append, List.take_of_length_le (by omega)]
      have hd2 := rDec_at pre ((segB (o + 1) r).take (m - (rec_ o n s v).length)) hk.1
      rw [e, hd2]
      dsimp only
      rw [if_pos (by simp; omega), if_pos rfl, if_pos rfl, if_neg (by omega)]
      have ih := rcv_torn r (o + 1) (m - (rec_ o n s v).length) d (pre ++ rec_ o n s v) hk.2 (by simp; omega) (by omega)
      rw [List.append_assoc, List.length_append] at ih
      rw [show (pre.length : Int) + ((rec_ o n s v).length : Int) = ((pre.length + (rec_ o n s v).length : Nat) : Int) from by omega, ih]
      simp only [Prod.mk.injEq]
      constructor <;> omega
    · rw [if_neg h]
      by_cases h0 : m = 0
      · subst h0; rw [if_neg (by simp)]; simp
      · have e : pre ++ (segB o ((n, s, v) :: r)).take m = pre ++ (rec_ o n s v).take m := by
          simp only [segB]
          rw [List.take_append_of_le_length (by omega)]
        have ht := rDec_torn pre hk.1 (m := m) (by omega)
        rw [e, if_pos (by simp; omega), if_neg (by rw [ht]; decide)]
        simp
/-! ### checking a segment -/
theorem ck_loop (base nx : Int) (b : List UInt8) (hlen : b.length ≤ 65536) (hnx : -9223372036854775808 ≤ nx ∧ nx ≤ 9223372036854775807) : ∀ (d : Nat) (n p : Int) (k : Nat), 0 ≤ p → p ≤ (b.length : Int) → (b.length : Int) - p < d → d ≤ k →
    ∃ o, loopN st44_0 k ((n, p), (base, nx, b)) = some o ∧ (match o with | .inl x => cond (x.2.2.1 != x.1) (some 1) (some 0) | .inr x => some x) = some (ckS b nx d n p) := by
  intro d
  induction d with
  | zero => intro n p k h0 h1 h2; omega
  | succ d ih =>
    intro n p k h0 h1 h2 hk
    cases k with
    | zero => omega
    | succ k =>
      have ih' := fun n p a b c => ih n p k a b c (by omega)
      rw [loopN_s]; generalize loopN st44_0 k = L at ih' ⊢; dsimp only [st44_0]
      unfold ckS
      by_cases hp : p < (b.length : Int)
      · rw [ct (by (simp only [ne_eq, Bool.and_eq_true, Bool.or_eq_true, decide_eq_true_eq, beq_iff_eq, bne_iff_ne, Bool.not_eq_true', decide_eq_false_iff_not, and_true, true_and]; omega)), Decode_eq b (by omega) p, if_pos hp]
        simp only [Option.bind_some]
        by_cases he : (rDec b p).2.2.2.2.2 = 0
        · obtain ⟨k1, k2, k3, k4, k5⟩ := rDec_next trivial he
          rw [if_pos he, cf (by (rw [Bool.eq_false_iff]; simp only [ne_eq, Bool.and_eq_true, Bool.or_eq_true, decide_eq_true_eq, beq_iff_eq, bne_iff_ne, Bool.not_eq_true', decide_eq_false_iff_not, and_true, true_and]; omega))]
          by_cases hn : (rDec b p).1 = n
          · rw [if_pos hn, cf (by (rw [Bool.eq_false_iff]; simp only [ne_eq, Bool.and_eq_true, Bool.or_eq_true, decide_eq_true_eq, beq_iff_eq, bne_iff_ne, Bool.not_eq_true', decide_eq_false_iff_not, and_true, true_and]; omega)), i64w (by omega) (by omega)]
            exact ih' _ _ (by omega) k3 (by omega)
          · rw [if_neg hn, ct (by (simp only [ne_eq, Bool.and_eq_true, Bool.or_eq_true, decide_eq_true_eq, beq_iff_eq, bne_iff_ne, Bool.not_eq_true', decide_eq_false_iff_not, and_true, true_and]; omega))]; exact ⟨_, rfl, rfl⟩
        · rw [if_neg he, ct (by (simp only [ne_eq, Bool.and_eq_true, Bool.or_eq_true, decide_eq_true_eq, beq_iff_eq, bne_iff_ne, Bool.not_eq_true', decide_eq_false_iff_not, and_true, true_and]; omega))]; exact ⟨_, rfl, rfl⟩
      · rw [cf (by (rw [Bool.eq_false_iff]; simp only [ne_eq, Bool.and_eq_true, Bool.or_eq_true, decide_eq_true_eq, beq_iff_eq, bne_iff_ne, Bool.not_eq_true', decide_eq_false_iff_not, and_true, true_and]; omega)), if_neg hp]
        refine ⟨_, rfl, ?_⟩
        by_cases hn : nx = n
        · rw [if_pos hn]; show cond (nx != n) (some 1) (some 0) = _; rw [cf (by (rw [Bool.eq_false_iff]; simp only [ne_eq, Bool.and_eq_true, Bool.or_eq_true, decide_eq_true_eq, beq_iff_eq, bne_iff_ne, Bool.not_eq_true', decide_eq_false_iff_not, and_true, true_and]; omega))]
        · rw [if_neg hn]; show cond (nx != n) (some 1) (some 0) = _; rw [ct (by (simp only [ne_eq, Bool.and_eq_true, Bool.or_eq_true, decide_eq_true_eq, beq_iff_eq, bne_iff_ne, Bool.not_eq_true', decide_eq_false_iff_not, and_true, true_and]; omega))]
theorem seg_Check_eq (base nx : Int) (b : List UInt8) (hnx : -9223372036854775808 ≤ nx ∧ nx ≤ 9223372036854775807) : g44 base nx b = some (sChk base nx b) := by
  unfold g44 sChk
  by_cases h0 : base < 0
  · rw [ct (by (simp only [ne_eq, Bool.and_eq_true, Bool.or_eq_true, decide_eq_true_eq, beq_iff_eq, bne_iff_ne, Bool.not_eq_true', decide_eq_false_iff_not, and_true, true_and]; omega)), if_pos h0]
  · by_cases h1 : base > 1099511627776
    · rw [cf (by (rw [Bool.eq_false_iff]; simp only [ne_eq, Bool.and_eq_true, Bool.or_eq_true, decide_eq_true_eq, beq_iff_eq, bne_iff_ne, Bool.not_eq_true', decide_eq_false_iff_not, and_true, true_and]; omega)), ct (by (simp only [ne_eq, Bool.and_eq_true, Bool.or_eq_true, decide_eq_true_eq, beq_iff_eq, bne_iff_ne, Bool.not_eq_true', decide_eq_false_iff_not, and_true, true_and]; omega)), if_neg h0, if_pos h1]
    · by_cases h2 : (b.length : Int) > 65536
      · rw [cf (by (rw [Bool.eq_false_iff]; simp only [ne_eq, Bool.and_eq_true, Bool.or_eq_true, decide_eq_true_eq, beq_iff_eq, bne_iff_ne, Bool.not_eq_true', decide_eq_false_iff_not, and_true, true_and]; omega)), cf (by (rw [Bool.eq_false_iff]; simp only [ne_eq, Bool.and_eq_true, Bool.or_eq_true, decide_eq_true_eq, beq_iff_eq, bne_iff_ne, Bool.not_eq_true', decide_eq_false_iff_not, and_true, true_and]; omega)), ct (by (simp only [ne_eq, Bool.and_eq_true, Bool.or_eq_true, decide_eq_true_eq, beq_iff_eq, bne_iff_ne, Bool.not_eq_true', decide_eq_false_iff_not, and_true, true_and]; omega)), if_neg h0, if_neg h1, if_pos h2]
      · rw [cf (by (rw [Bool.eq_false_iff]; simp only [ne_eq, Bool.and_eq_true, Bool.or_eq_true, decide_eq_true_eq, beq_iff_eq, bne_iff_ne, Bool.not_eq_true', decide_eq_false_iff_not, and_true, true_and]; omega)), cf (by (rw [Bool.eq_false_iff]; simp only [ne_eq, Bool.and_eq_true, Bool.or_eq_true, decide_eq_true_eq, beq_iff_eq, bne_iff_ne, Bool.not_eq_true', decide_eq_false_iff_not, and_true, true_and]; omega)), cf (by (rw [Bool.eq_false_iff]; simp only [ne_eq, Bool.and_eq_true, Bool.or_eq_true, decide_eq_true_eq, beq_iff_eq, bne_iff_ne, Bool.not_eq_true', decide_eq_false_iff_not, and_true, true_and]; omega)), if_neg h0, if_neg h1, if_neg h2]
        obtain ⟨o, k1, k2⟩ := ck_loop base nx b (by omega) hnx (b.length + 1) base 0 fuel (by omega) (by omega) (by omega) (fuel_gt (by omega))
        unfold h44_0
        rw [k1]
        simp only [Option.bind_some]
        exact k2
/-! ### appending -/
theorem ref_Append_eq (base nx : Int) (b : List UInt8) (n : Int) (s v : List UInt8) (hb : b.length ≤ 65536) : g58 base nx b n s v = some ((fun r : Int × Int × List UInt8 × Int × Int => ((r.1, r.2.1, r.2.2.1), r.2.2.2.1, r.2.2.2.2)) (sApp base nx b n s v)) := by
  unfold g58 sApp
  rw [ref_Encode_eq]
  simp only [Option.bind_some]
  unfold rEnc
  by_cases h : chk nx n s v = 0
  · have hr := rec_len h
    obtain ⟨c0, c1, _⟩ := chk_zero.1 h
    rw [if_pos h, if_pos h]
    dsimp only
    rw [cf (by rfl), i64w (n := (b.length : Int) + _) (by omega) (by omega)]
    by_cases h1 : (b.length : Int) + ((rec_ nx n s v).length : Int) > 65536
    · rw [if_pos h1, ct (by (simp only [ne_eq, Bool.and_eq_true, Bool.or_eq_true, decide_eq_true_eq, beq_iff_eq, bne_iff_ne, Bool.not_eq_true', decide_eq_false_iff_not, and_true, true_and]; omega))]
    · rw [if_neg h1, cf (by (rw [Bool.eq_false_iff]; simp only [ne_eq, Bool.and_eq_true, Bool.or_eq_true, decide_eq_true_eq, beq_iff_eq, bne_iff_ne, Bool.not_eq_true', decide_eq_false_iff_not, and_true, true_and]; omega)), ct (by (simp only [ne_eq, Bool.and_eq_true, Bool.or_eq_true, decide_eq_true_eq, beq_iff_eq, bne_iff_ne, Bool.not_eq_true', decide_eq_false_iff_not, and_true, true_and]; omega)), ct (by simp; omega), i64w (by omega) (by omega)]
      simp
  · rw [if_neg h, if_neg h]; dsimp only; rw [ct (by (simp only [ne_eq, Bool.and_eq_true, Bool.or_eq_true, decide_eq_true_eq, beq_iff_eq, bne_iff_ne, Bool.not_eq_true', decide_eq_false_iff_not, and_true, true_and]; omega))]
end Go.Proofs.Ytbncnkchedhnpaa.EVT
