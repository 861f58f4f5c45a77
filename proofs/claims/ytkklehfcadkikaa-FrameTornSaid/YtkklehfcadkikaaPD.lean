/- What the printed functions of package pack, and of its reference, compute. -/
import Derived.Test.YtkklehfcadkikaaPC
import Derived.Test.YtkklehfcadkikaaUA
set_option linter.unusedVariables false
set_option linter.unusedSimpArgs false
namespace Go.Proofs.Ytkklehfcadkikaa.EVT
open Go Go.EV

theorem ct {α : Type} {b : Bool} {x y : α} (h : b = true) : cond b x y = x := by rw [h]; rfl
theorem cf {α : Type} {b : Bool} {x y : α} (h : b = false) : cond b x y = y := by rw [h]; rfl
theorem and_fold (k : IntKind) (x y : Int) : k.wrap (((BitVec.ofInt k.bits x &&& BitVec.ofInt k.bits y).toNat : Nat) : Int) = Go.bits .and k x y := rfl
theorem or_fold (k : IntKind) (x y : Int) : k.wrap (((BitVec.ofInt k.bits x ||| BitVec.ofInt k.bits y).toNat : Nat) : Int) = Go.bits .or k x y := rfl
theorem xor_fold (k : IntKind) (x y : Int) : k.wrap (((BitVec.ofInt k.bits x ^^^ BitVec.ofInt k.bits y).toNat : Nat) : Int) = Go.bits .xor k x y := rfl
theorem loopN_s {σ O : Type} (st : (σ → Option O) → σ → Option O) (n : Nat) (v : σ) : loopN st (n + 1) v = st (loopN st n) v := rfl
theorem p1 : (2 : Int) ^ min (Int.toNat 1) IntKind.u64.bits = 2 := by decide
theorem p63 : (2 : Int) ^ min (Int.toNat 63) IntKind.i64.bits = 9223372036854775808 := by decide
theorem p7 : (2 : Int) ^ min (Int.toNat 7) IntKind.u64.bits = 128 := by decide
theorem fd {a b : Int} (hb : 0 ≤ b) : a.fdiv b = a / b := Int.fdiv_eq_ediv_of_nonneg a hb
theorem u8w {n : Int} (h0 : 0 ≤ n) (h1 : n < 256) : IntKind.u8.wrap n = n := by simp [IntKind.wrap, IntKind.bits, IntKind.signed]; omega
theorem wrap_u8 (n : Int) : IntKind.u8.wrap n = n % 256 := by simp [IntKind.wrap, IntKind.bits, IntKind.signed]

theorem pack_code (n : Int) (h0 : -9223372036854775808 ≤ n) (h1 : n ≤ 9223372036854775807) : g59 n = some ((code n : Nat) : Int) := by
  unfold g59
  rw [xor_fold, p1, p63, fd (by omega), wrap_u64, wrap_u64, wrap_u64]
  by_cases h : 0 ≤ n
  · have e1 : n / 9223372036854775808 = 0 := by omega
    have e2 : (0 : Int) % 18446744073709551616 = 0 := rfl
    rw [e1, e2, u64_xor0 _ (by omega) (by omega)]
    congr 1; unfold code; rw [if_pos h]; omega
  · have e1 : n / 9223372036854775808 = -1 := by omega
    have e2 : (-1 : Int) % 18446744073709551616 = 18446744073709551615 := rfl
    rw [e1, e2, u64_xor1 _ (by omega) (by omega)]
    congr 1; unfold code; rw [if_neg h]; omega
theorem pack_number (c : Nat) (h : c < 2 ^ 64) : g56 (c : Int) = some (num c) := by
  unfold g56
  rw [and_fold, p1, fd (by omega), u64_and1 _ (by omega) (by omega)]
  by_cases h2 : c % 2 = 0
  · rw [cf (by (rw [Bool.eq_false_iff]; simp only [ne_eq, Bool.and_eq_true, Bool.or_eq_true, decide_eq_true_eq, beq_iff_eq, bne_iff_ne, Bool.not_eq_true', decide_eq_false_iff_not, and_true, true_and]; omega)), i64w (by omega) (by omega)]
    congr 1; unfold num; rw [if_pos h2]; omega
  · rw [ct (by (simp only [ne_eq, Bool.and_eq_true, Bool.or_eq_true, decide_eq_true_eq, beq_iff_eq, bne_iff_ne, Bool.not_eq_true', decide_eq_false_iff_not, and_true, true_and]; omega)), i64w (n := (c : Int) / 2) (by omega) (by omega), i64w (n := 0 - ((c : Int) / 2)) (by omega) (by omega), i64w (by omega) (by omega)]
    congr 1; unfold num; rw [if_neg h2]; omega
/-! ### putting numbers -/
theorem add_step8 {c : Nat} (h : 128 ≤ c) (hc : c < 2 ^ 64) : Go.bits .or .u8 (IntKind.u8.wrap (Go.bits .and .u64 (c : Int) 127)) 128 = ((c % 128 + 128 : Nat) : Int) := by
  rw [wrap_u8, u64_and127 _ (by omega) (by omega), u8_or_128 _ (by omega) (by omega)]; omega
theorem add_loop (c : Nat) : c < 2 ^ 64 → ∀ (l : List UInt8) (n : Nat), l.length + (enc c).length ≤ 2147483647 → (enc c).length ≤ n →
    ∃ x r, loopN st53_0 n ((c : Int), l) = some (.inl (x, r)) ∧ 0 ≤ x ∧ x ≤ 127 ∧ r.length + 1 ≤ 2147483647 ∧ r ++ [UInt8.ofNat x.toNat] = l ++ enc c := by
  induction c using Nat.strongRecOn with
  | _ c ih =>
    intro hc l n hl hn
    have hp := enc_pos c
    cases n with
    | zero => omega
    | succ n =>
      by_cases h : c < 128
      · rw [enc_small h] at hl ⊢
        simp at hl
        refine ⟨c, l, ?_, by omega, by omega, by omega, by simp⟩
        rw [loopN_s]; generalize loopN st53_0 n = L at *; dsimp only [st53_0]
        rw [cf (by (rw [Bool.eq_false_iff]; simp only [ne_eq, Bool.and_eq_true, Bool.or_eq_true, decide_eq_true_eq, beq_iff_eq, bne_iff_ne, Bool.not_eq_true', decide_eq_false_iff_not, and_true, true_and]; omega))]
      · rw [enc_big h] at hl hn ⊢
        simp at hl hn
        obtain ⟨x, r, h1, h2, h3, h4, h5⟩ := ih (c / 128) (by omega) (by omega) (l ++ [UInt8.ofNat (c % 128 + 128)]) n (by simp; omega) hn
        refine ⟨x, r, ?_, h2, h3, h4, by rw [h5]; simp⟩
        rw [loopN_s]; generalize loopN st53_0 n = L at *; dsimp only [st53_0]
        rw [and_fold, or_fold, add_step8 (by omega) hc, p7, fd (by omega), show (c : Int) / 128 = ((c / 128 : Nat) : Int) from by omega, Int.toNat_natCast, ct (by (simp only [ne_eq, Bool.and_eq_true, Bool.or_eq_true, decide_eq_true_eq, beq_iff_eq, bne_iff_ne, Bool.not_eq_true', decide_eq_false_iff_not, and_true, true_and]; omega)), ct (by (simp only [ne_eq, Bool.and_eq_true, Bool.or_eq_true, decide_eq_true_eq, beq_iff_eq, bne_iff_ne, Bool.not_eq_true', decide_eq_false_iff_not, and_true, true_and]; omega)), ct (by (simp only [ne_eq, Bool.and_eq_true, Bool.or_eq_true, decide_eq_true_eq, beq_iff_eq, bne_iff_ne, Bool.not_eq_true', decide_eq_false_iff_not, and_true, true_and]; omega)), h1]
theorem fuel_gt {n : Nat} (h : n ≤ 9223372036854775807) : n ≤ fuel := by rw [fuel_eq]; omega
theorem add_eq (l : List UInt8) (n : Int) (h0 : -9223372036854775808 ≤ n) (h1 : n ≤ 9223372036854775807) (hl : l.length ≤ 2147483637) : g53 l n = some (l ++ enc (code n)) := by
  have h10 := enc_len10 (code_lt h0 h1)
  obtain ⟨x, r, k1, k2, k3, k4, k5⟩ := add_loop (code n) (code_lt h0 h1) l fuel (by omega) (fuel_gt (by omega))
  unfold g53 h53_0
  rw [pack_code n h0 h1]
  simp only [Option.bind_some]
  rw [k1]
  simp only [Option.bind_some]
  rw [u8w (by omega) (by omega), ct (by (simp only [ne_eq, Bool.and_eq_true, Bool.or_eq_true, decide_eq_true_eq, beq_iff_eq, bne_iff_ne, Bool.not_eq_true', decide_eq_false_iff_not, and_true, true_and]; omega)), ct (by (simp only [ne_eq, Bool.and_eq_true, Bool.or_eq_true, decide_eq_true_eq, beq_iff_eq, bne_iff_ne, Bool.not_eq_true', decide_eq_false_iff_not, and_true, true_and]; omega)), k5]
theorem take_rep (l : List UInt8) (x : UInt8) : List.take 0 (List.replicate l.length x) ++ (List.take (List.replicate l.length x).length l ++ List.drop (0 + (List.take (List.replicate l.length x).length l).length) (List.replicate l.length x)) = l := by
  simp
theorem owned_eq (l : List UInt8) (n : Int) (h0 : 0 ≤ n) (h1 : (l.length : Int) + n ≤ 2147483647) : g54 l n = some l := by
  unfold g54
  rw [i64w (by omega) (by omega), ct (by (simp only [ne_eq, Bool.and_eq_true, Bool.or_eq_true, decide_eq_true_eq, beq_iff_eq, bne_iff_ne, Bool.not_eq_true', decide_eq_false_iff_not, and_true, true_and]; omega)), ct (by (simp only [ne_eq, Bool.and_eq_true, Bool.or_eq_true, decide_eq_true_eq, beq_iff_eq, bne_iff_ne, Bool.not_eq_true', decide_eq_false_iff_not, and_true, true_and]; omega)), Int.toNat_natCast, take_rep]
theorem PutNum_eq (l : List UInt8) (n : Int) (h0 : -9223372036854775808 ≤ n) (h1 : n ≤ 9223372036854775807) (hl : l.length ≤ 2147483637) : g21 l n = some (l ++ enc (code n)) := by
  unfold g21
  rw [owned_eq l 10 (by omega) (by omega)]
  simp only [Option.bind_some]
  rw [add_eq l n h0 h1 hl]
  rfl
theorem PutText_eq (l s : List UInt8) (hl : l.length + s.length ≤ 2147483637) : g26 l s = some (l ++ cat s) := by
  unfold g26
  rw [i64w (by omega) (by omega), owned_eq l _ (by omega) (by omega)]
  simp only [Option.bind_some]
  rw [add_eq l _ (by omega) (by omega) (by omega)]
  simp only [Option.bind_some]
  have h10 := enc_len10 (code_lt (n := (s.length : Int)) (by omega) (by omega))
  rw [ct (by simp only [decide_eq_true_eq, List.length_append]; omega)]
  simp [cat]
end Go.Proofs.Ytkklehfcadkikaa.EVT
