/- Plain facts on numbers, bits, bytes: encoding and decoding of numbers and texts; no program in sight. -/
import Derived.Test.YtkklehfcadkikaaTv13
import Derived.Laws.BitsLemmas
import Derived.Test.YtkklehfcadkikaaUA
set_option linter.unusedVariables false
set_option linter.unusedSimpArgs false
namespace Go.Proofs.Ytkklehfcadkikaa.EVT
open Go Go.EV


/-! ### bits -/
theorem wraps_u64 (n : Int) (h₀ : 0 ≤ n) (h₁ : n < 2 ^ 64) : IntKind.u64.wrap n = n := by
  simp [IntKind.wrap, IntKind.bits, IntKind.signed]; omega
theorem wrap_u64 (n : Int) : IntKind.u64.wrap n = n % 18446744073709551616 := by simp [IntKind.wrap, IntKind.bits, IntKind.signed]
theorem wraps_u32 (n : Int) (h₀ : 0 ≤ n) (h₁ : n < 2 ^ 32) : IntKind.u32.wrap n = n := by
  simp [IntKind.wrap, IntKind.bits, IntKind.signed]; omega
theorem wraps_i64 (n : Int) (h₀ : 0 ≤ n) (h₁ : n < 2 ^ 63) : IntKind.i64.wrap n = n := by
  rw [IntKind.wrap_i64]; omega
theorem bits_xor_nat (k : IntKind) (j : Nat) (hj : j ≤ k.bits) (hk : ∀ n : Int, 0 ≤ n → n < 2 ^ j → k.wrap n = n) (a b : Nat) (ha : a < 2 ^ j) (hb : b < 2 ^ j) :
    bits .xor k a b = ((a ^^^ b : Nat) : Int) := by
  have hp : 2 ^ j ≤ 2 ^ k.bits := Nat.pow_le_pow_right (by decide) hj
  have ha' : a % 2 ^ k.bits = a := Nat.mod_eq_of_lt (Nat.lt_of_lt_of_le ha hp)
  have hb' : b % 2 ^ k.bits = b := Nat.mod_eq_of_lt (Nat.lt_of_lt_of_le hb hp)
  simp only [bits, BitVec.ofInt_natCast, BitVec.toNat_xor, BitVec.toNat_ofNat, ha', hb']
  exact hk _ (Int.natCast_nonneg _) (by exact_mod_cast Nat.xor_lt_two_pow ha hb)
theorem u64_xor0 (x : Int) (h0 : 0 ≤ x) (h1 : x < 2 ^ 64) : bits .xor .u64 x 0 = x := by
  obtain ⟨a, rfl⟩ := Int.eq_ofNat_of_zero_le h0
  have := bits_xor_nat .u64 64 (by decide) wraps_u64 a 0 (by omega) (by decide)
  simpa using this
theorem nat_xor_ones (a : Nat) (h : a < 2 ^ 64) : a ^^^ 18446744073709551615 = 18446744073709551615 - a := by
  have h2 := BitVec.toNat_xor (BitVec.ofNat 64 a) (BitVec.allOnes 64)
  rw [BitVec.xor_allOnes, BitVec.toNat_not] at h2
  simp [BitVec.toNat_ofNat, Nat.mod_eq_of_lt h] at h2
  omega
theorem u64_xor1 (x : Int) (h0 : 0 ≤ x) (h1 : x < 2 ^ 64) : bits .xor .u64 x 18446744073709551615 = 18446744073709551615 - x := by
  obtain ⟨a, rfl⟩ := Int.eq_ofNat_of_zero_le h0
  have := bits_xor_nat .u64 64 (by decide) wraps_u64 a 18446744073709551615 (by omega) (by decide)
  rw [nat_xor_ones a (by omega)] at this
  have h3 : ((18446744073709551615 : Nat) : Int) = 18446744073709551615 := rfl
  rw [h3] at this
  rw [this]; omega
theorem u64_and127 (x : Int) (h₀ : 0 ≤ x) (h₁ : x < 2 ^ 64) : bits .and .u64 x 127 = x % 128 := bits_mask .u64 64 (by decide) wraps_u64 7 (by decide) x h₀ h₁
theorem u64_and1 (x : Int) (h₀ : 0 ≤ x) (h₁ : x < 2 ^ 64) : bits .and .u64 x 1 = x % 2 := bits_mask .u64 64 (by decide) wraps_u64 1 (by decide) x h₀ h₁
theorem u8_and127 (x : Int) (h₀ : 0 ≤ x) (h₁ : x < 256) : bits .and .u8 x 127 = x % 128 := bits_mask .u8 8 (by decide) wraps_u8 7 (by decide) x h₀ h₁
theorem i64_and255 (x : Int) (h₀ : 0 ≤ x) (h₁ : x < 2 ^ 63) : bits .and .i64 x 255 = x % 256 := bits_mask .i64 63 (by decide) wraps_i64 8 (by decide) x h₀ h₁
theorem bits_or_comm (k : IntKind) (x y : Int) : bits .or k x y = bits .or k y x := by simp only [bits, BitVec.or_comm]
theorem bits_and_comm (k : IntKind) (x y : Int) : bits .and k x y = bits .and k y x := by simp only [bits, BitVec.and_comm]
theorem u8_or_128 (x : Int) (h₀ : 0 ≤ x) (h₁ : x < 128) : bits .or .u8 x 128 = x + 128 := by
  rw [bits_or_comm, bits_join .u8 8 (by decide) wraps_u8 7 128 x (by decide) (by decide) (by decide) h₀ h₁ (by omega)]; omega
theorem u64_or_join (i : Nat) (x y : Int) (hi : i ≤ 64) (hx₀ : 0 ≤ x) (hx : x < 2 ^ i) (hy0 : 0 ≤ y) (hy : y % 2 ^ i = 0) (hy₁ : y < 2 ^ 64) : bits .or .u64 x y = x + y := by
  rw [bits_or_comm, bits_join .u64 64 (by decide) wraps_u64 i y x hy0 hy hy₁ hx₀ hx (Int.lt_of_lt_of_le hx (by exact_mod_cast Nat.pow_le_pow_right (by decide) hi))]
  omega
theorem i64_or_join (i : Nat) (x y : Int) (hx0 : 0 ≤ x) (hx : x % 2 ^ i = 0) (hx1 : x < 2 ^ 63) (hy0 : 0 ≤ y) (hy : y < 2 ^ i) (hy1 : y < 2 ^ 63) : bits .or .i64 x y = x + y :=
  bits_join .i64 63 (by decide) wraps_i64 i x y hx0 hx hx1 hy0 hy hy1
theorem i64w {n : Int} (h0 : -9223372036854775808 ≤ n) (h1 : n ≤ 9223372036854775807) : IntKind.i64.wrap n = n := by rw [IntKind.wrap_i64]; omega
theorem u8n {c : Nat} (h : c < 256) : (UInt8.ofNat c).toNat = c := by rw [UInt8.toNat_ofNat']; omega
theorem u8ext {a b : UInt8} (h : a.toNat = b.toNat) : a = b := UInt8.toNat.inj h
theorem u8lt (x : UInt8) : x.toNat ≤ 255 := by have := x.toNat_lt; omega
def enc (c : Nat) : List UInt8 := if c < 128 then [UInt8.ofNat c] else UInt8.ofNat (c % 128 + 128) :: enc (c / 128)
termination_by c
decreasing_by omega
theorem enc_small {c : Nat} (h : c < 128) : enc c = [UInt8.ofNat c] := by rw [enc, if_pos h]
theorem enc_big {c : Nat} (h : ¬ c < 128) : enc c = UInt8.ofNat (c % 128 + 128) :: enc (c / 128) := by rw [enc, if_neg h]
theorem enc_pos (c : Nat) : 1 ≤ (enc c).length := by
  rw [enc]; split <;> simp
theorem enc_len (c : Nat) : ∀ j, c < 128 ^ (j + 1) → (enc c).length ≤ j + 1 := by
  induction c using Nat.strongRecOn with
  | _ c ih =>
    intro j hj
    by_cases h : c < 128
    · rw [enc_small h]; simp
    · rw [enc_big h]
      cases j with
      | zero => simp at hj; omega
      | succ j =>
        have := ih (c / 128) (by omega) j (by rw [Nat.pow_succ] at hj; omega)
        simp; omega
theorem enc_len10 {c : Nat} (h : c < 2 ^ 64) : (enc c).length ≤ 10 := enc_len c 9 (Nat.lt_of_lt_of_le h (by decide))

def code (n : Int) : Nat := if 0 ≤ n then (2 * n).toNat else (-(2 * n) - 1).toNat
def num (c : Nat) : Int := if c % 2 = 0 then ((c / 2 : Nat) : Int) else -((c / 2 : Nat) : Int) - 1
theorem num_code (n : Int) : num (code n) = n := by unfold num code; split <;> split <;> omega
theorem code_num (c : Nat) : code (num c) = c := by unfold num code; split <;> split <;> omega
theorem code_lt {n : Int} (h0 : -9223372036854775808 ≤ n) (h1 : n ≤ 9223372036854775807) : code n < 2 ^ 64 := by unfold code; split <;> omega
theorem num_range {c : Nat} (h : c < 2 ^ 64) : -9223372036854775808 ≤ num c ∧ num c ≤ 9223372036854775807 := by unfold num; split <;> omega

inductive Dec where
  | ok (c k : Nat)
  | trunc
  | syn
def dec : List UInt8 → Nat → Nat → Dec
  | [], _, _ => .trunc
  | x :: r, i, c => if (i = 9 ∧ 1 < x.toNat) ∨ (0 < i ∧ x.toNat = 0) then .syn else if x.toNat < 128 then .ok (c + x.toNat * 128 ^ i) (i + 1) else dec r (i + 1) (c + (x.toNat - 128) * 128 ^ i)
theorem pow128_9 : (128 : Nat) ^ 9 = 9223372036854775808 := by decide
theorem dec_syn {x : UInt8} {r : List UInt8} {i c : Nat} (h : (i = 9 ∧ 1 < x.toNat) ∨ (0 < i ∧ x.toNat = 0)) : dec (x :: r) i c = .syn := by rw [dec, if_pos h]
theorem dec_ok {x : UInt8} {r : List UInt8} {i c : Nat} (h : ¬ ((i = 9 ∧ 1 < x.toNat) ∨ (0 < i ∧ x.toNat = 0))) (hx : x.toNat < 128) : dec (x :: r) i c = .ok (c + x.toNat * 128 ^ i) (i + 1) := by rw [dec, if_neg h, if_pos hx]
theorem dec_more {x : UInt8} {r : List UInt8} {i c : Nat} (h : ¬ ((i = 9 ∧ 1 < x.toNat) ∨ (0 < i ∧ x.toNat = 0))) (hx : ¬ x.toNat < 128) : dec (x :: r) i c = dec r (i + 1) (c + (x.toNat - 128) * 128 ^ i) := by rw [dec, if_neg h, if_neg hx]

theorem pow128_dvd (i : Nat) : ∀ c : Nat, c * 128 ^ i < 2 ^ 64 → i = 9 → c ≤ 1 := by
  intro c h hi; subst hi; rw [pow128_9] at h; omega
theorem pow128_10 {i c : Nat} (h : c * 128 ^ i < 2 ^ 64) (hc : 0 < c) : i ≤ 9 := by
  apply Decidable.byContradiction
  intro hn
  have h1 : 128 ^ 10 ≤ 128 ^ i := Nat.pow_le_pow_right (by decide) (by omega)
  have h2 : 128 ^ i ≤ c * 128 ^ i := Nat.le_mul_of_pos_left _ hc
  have h3 : (2 : Nat) ^ 64 ≤ 128 ^ 10 := by decide
  omega
/-- What was encoded is decoded, whatever follows. -/
theorem dec_enc (r : List UInt8) (c : Nat) : ∀ i a, c * 128 ^ i < 2 ^ 64 → (i = 0 ∨ 0 < c) → dec (enc c ++ r) i a = .ok (a + c * 128 ^ i) (i + (enc c).length) := by
  induction c using Nat.strongRecOn with
  | _ c ih =>
    intro i a h hi
    have h9 := pow128_dvd i c h
    by_cases hc : c < 128
    · rw [enc_small hc]
      have hu := u8n (c := c) (by omega)
      have hn : ¬ ((i = 9 ∧ 1 < (UInt8.ofNat c).toNat) ∨ (0 < i ∧ (UInt8.ofNat c).toNat = 0)) := by rw [hu]; omega
      rw [List.singleton_append, dec_ok hn (by omega), hu]
      simp
    · rw [enc_big hc]
      have hu := u8n (c := c % 128 + 128) (by omega)
      have hn : ¬ ((i = 9 ∧ 1 < (UInt8.ofNat (c % 128 + 128)).toNat) ∨ (0 < i ∧ (UInt8.ofNat (c % 128 + 128)).toNat = 0)) := by rw [hu]; omega
      rw [List.cons_append, dec_more hn (by omega), hu]
      have hp : c / 128 * 128 ^ (i + 1) = c * 128 ^ i - c % 128 * 128 ^ i := by
        have h1 : c / 128 * 128 = c - c % 128 := by omega
        rw [Nat.pow_succ, Nat.mul_comm (128 ^ i), ← Nat.mul_assoc, h1, Nat.sub_mul]
      have hle : c % 128 * 128 ^ i ≤ c * 128 ^ i := Nat.mul_le_mul_right _ (Nat.mod_le _ _)
      rw [ih (c / 128) (by omega) (i + 1) _ (by omega) (.inr (by omega)), hp]
      have e1 : (c % 128 + 128 - 128) = c % 128 := by omega
      rw [e1]
      have e2 : a + c % 128 * 128 ^ i + (c * 128 ^ i - c % 128 * 128 ^ i) = a + c * 128 ^ i := by
        generalize c % 128 * 128 ^ i = u at *
        generalize c * 128 ^ i = v at *
        omega
      have e3 : i + 1 + (enc (c / 128)).length = i + (UInt8.ofNat (c % 128 + 128) :: enc (c / 128)).length := by rw [List.length_cons]; omega
      rw [e2, e3]
/-- What is accepted is what is written. -/
theorem dec_only (l : List UInt8) : ∀ i a c k, i ≤ 9 → dec l i a = .ok c k →
    ∃ c', c = a + c' * 128 ^ i ∧ k = i + (enc c').length ∧ (enc c').length ≤ l.length ∧ l.take (enc c').length = enc c' ∧ (i = 0 ∨ 0 < c') ∧ c' * 128 ^ i < 2 ^ 64 := by
  induction l with
  | nil => intro i a c k _ h; simp [dec] at h
  | cons x r ih =>
    intro i a c k hi h
    have hx := u8lt x
    by_cases hs : (i = 9 ∧ 1 < x.toNat) ∨ (0 < i ∧ x.toNat = 0)
    · rw [dec_syn hs] at h; cases h
    · by_cases hlt : x.toNat < 128
      · rw [dec_ok hs hlt] at h
        injection h with h1 h2
        have he : enc x.toNat = [x] := by rw [enc_small (by omega)]; congr 1; exact u8ext (u8n (by omega))
        refine ⟨x.toNat, h1.symm, by rw [he]; simp; omega, by rw [he]; simp, by rw [he]; simp, by omega, ?_⟩
        have hle : 128 ^ i ≤ 128 ^ 9 := Nat.pow_le_pow_right (by decide) hi
        by_cases h9 : i = 9
        · subst h9; rw [pow128_9]; omega
        · have hle8 : 128 ^ i ≤ 128 ^ 8 := Nat.pow_le_pow_right (by decide) (by omega)
          have h3 : x.toNat * 128 ^ i ≤ 127 * 128 ^ 8 := Nat.mul_le_mul (by omega) hle8
          have h4 : (127 : Nat) * 128 ^ 8 < 2 ^ 64 := by decide
          omega
      · rw [dec_more hs hlt] at h
        have hi9 : i ≠ 9 := by omega
        obtain ⟨c', h1, h2, h3, h4, h5, h6⟩ := ih (i + 1) _ c k (by omega) h
        have hc' : 0 < c' := by omega
        have hbig : ¬ (c' * 128 + (x.toNat - 128)) < 128 := by omega
        have he : enc (c' * 128 + (x.toNat - 128)) = x :: enc c' := by
          have hu := u8n (c := (c' * 128 + (x.toNat - 128)) % 128 + 128) (by omega)
          have e1 : UInt8.ofNat ((c' * 128 + (x.toNat - 128)) % 128 + 128) = x := u8ext (hu.trans (by omega))
          have e2 : (c' * 128 + (x.toNat - 128)) / 128 = c' := by omega
          rw [enc_big hbig, e1, e2]
        have hp : c' * 128 ^ (i + 1) = c' * 128 * 128 ^ i := by rw [Nat.pow_succ, Nat.mul_comm (128 ^ i), ← Nat.mul_assoc]
        refine ⟨c' * 128 + (x.toNat - 128), ?_, by rw [he]; simp; omega, by rw [he]; simp; omega, ?_, .inr (by omega), ?_⟩
        · rw [h1, hp, Nat.add_mul]; omega
        · rw [he]; simp [h4]
        · rw [Nat.add_mul, ← hp]
          have hd : (2 : Nat) ^ 64 = 2 ^ (64 - 7 * (i + 1)) * 128 ^ (i + 1) := by
            have : (128 : Nat) = 2 ^ 7 := by decide
            rw [this, ← Nat.pow_mul, ← Nat.pow_add]
            congr 1; omega
          have hlt2 : c' < 2 ^ (64 - 7 * (i + 1)) := by
            rw [hd] at h6
            exact Nat.lt_of_mul_lt_mul_right h6
          have h7 : (c' + 1) * 128 ^ (i + 1) ≤ 2 ^ 64 := by rw [hd]; exact Nat.mul_le_mul_right _ hlt2
          have h8 : (x.toNat - 128) * 128 ^ i < 128 ^ (i + 1) := by
            rw [Nat.pow_succ, Nat.mul_comm (128 ^ i)]
            exact Nat.mul_lt_mul_of_pos_right (by omega) (Nat.pow_pos (by decide))
          rw [Nat.add_mul] at h7
          omega
/-- What ends too early is torn. -/
theorem dec_torn (c : Nat) : ∀ i a m, c * 128 ^ i < 2 ^ 64 → (i = 0 ∨ 0 < c) → m < (enc c).length → dec ((enc c).take m) i a = .trunc := by
  induction c using Nat.strongRecOn with
  | _ c ih =>
    intro i a m h hi hm
    have h9 := pow128_dvd i c h
    cases m with
    | zero => simp [dec]
    | succ m =>
      by_cases hc : c < 128
      · rw [enc_small hc] at hm; simp at hm
      · rw [enc_big hc] at hm ⊢
        have hu := u8n (c := c % 128 + 128) (by omega)
        have hn : ¬ ((i = 9 ∧ 1 < (UInt8.ofNat (c % 128 + 128)).toNat) ∨ (0 < i ∧ (UInt8.ofNat (c % 128 + 128)).toNat = 0)) := by rw [hu]; omega
        rw [List.take_succ_cons, dec_more hn (by omega)]
        have hp : c / 128 * 128 ^ (i + 1) ≤ c * 128 ^ i := by
          rw [Nat.pow_succ, Nat.mul_comm (128 ^ i), ← Nat.mul_assoc]
          exact Nat.mul_le_mul_right _ (Nat.div_mul_le_self _ _)
        exact ih (c / 128) (by omega) (i + 1) _ m (by omega) (.inr (by omega)) (by simp at hm; omega)
/-- More bytes behind do not change an answer. -/
theorem dec_append (l r : List UInt8) : ∀ i a, dec l i a ≠ .trunc → dec (l ++ r) i a = dec l i a := by
  induction l with
  | nil => intro i a h; simp [dec] at h
  | cons x l ih =>
    intro i a h
    rw [List.cons_append]
    by_cases hs : (i = 9 ∧ 1 < x.toNat) ∨ (0 < i ∧ x.toNat = 0)
    · rw [dec_syn hs, dec_syn hs]
    · by_cases hlt : x.toNat < 128
      · rw [dec_ok hs hlt, dec_ok hs hlt]
      · rw [dec_more hs hlt] at h
        rw [dec_more hs hlt, dec_more hs hlt]
        exact ih _ _ h
abbrev Byt (_ : List UInt8) : Prop := True
def shl (k : IntKind) (x y : Int) : Int := k.wrap (x * 2 ^ min y.toNat k.bits)
theorem u64w {n : Int} (h0 : 0 ≤ n) (h1 : n < 18446744073709551616) : IntKind.u64.wrap n = n := by rw [wrap_u64]; omega
theorem tmod_nn {a b : Int} (h : 0 ≤ a) : Int.tmod a b = a % b := Int.tmod_eq_emod_of_nonneg h
theorem tdiv_nn {a b : Int} (h : 0 ≤ a) : Int.tdiv a b = a / b := Int.tdiv_eq_ediv_of_nonneg h

theorem add_step {c : Nat} (h : 128 ≤ c) (hc : c < 2 ^ 64) : Go.bits .or .u8 ((Go.bits .and .u64 (c : Int) 127) % 256) 128 = ((c % 128 + 128 : Nat) : Int) := by
  rw [u64_and127 _ (by omega) (by omega), u8_or_128 _ (by omega) (by omega)]; omega
/-! ### decoding -/
def rNum (b : List UInt8) (p : Int) : Int × Int × Int :=
  if p < 0 ∨ p > (b.length : Int) then (0, 0, 1) else
    match dec (b.drop p.toNat) 0 0 with
    | .trunc => (0, 0, 3)
    | .syn => (0, 0, 2)
    | .ok c k => (num c, p + k, 0)
def fin (p : Int) : Dec → Int × Int × Int
  | .trunc => (0, 0, 3)
  | .syn => (0, 0, 2)
  | .ok c k => (num c, p + k, 0)
theorem rNum_in {b : List UInt8} {p : Int} (h0 : 0 ≤ p) (h1 : p ≤ (b.length : Int)) : rNum b p = fin p (dec (b.drop p.toNat) 0 0) := by
  unfold rNum; rw [if_neg (by omega)]; cases dec (b.drop p.toNat) 0 0 <;> rfl
theorem rNum_out {b : List UInt8} {p : Int} (h : p < 0 ∨ p > (b.length : Int)) : rNum b p = (0, 0, 1) := by unfold rNum; rw [if_pos h]
theorem pow_le {i : Nat} (h : i ≤ 8) : (128 : Nat) ^ i ≤ 72057594037927936 := Nat.le_trans (Nat.pow_le_pow_right (by decide) h) (by decide)
theorem two_pow7 (i : Nat) : (2 : Nat) ^ (7 * i) = 128 ^ i := by rw [Nat.pow_mul]
/-- A group of seven bits, set at its place. -/
theorem group {i c x : Nat} (hi : i ≤ 9) (hc : c < 128 ^ i) (hx : x ≤ 255) (h9 : i = 9 → x ≤ 1) :
    Go.bits .or .u64 (c : Int) (shl .u64 (IntKind.u64.wrap (Go.bits .and .u8 (x : Int) 127)) (IntKind.i64.wrap (7 * (i : Int)))) = ((c + x % 128 * 128 ^ i : Nat) : Int) ∧ c + x % 128 * 128 ^ i < 2 ^ 64 := by
  have hb : x % 128 * 128 ^ i < 2 ^ 64 := by
    by_cases h : i = 9
    · subst h; have := h9 rfl; rw [pow128_9]; omega
    · have h8 := pow_le (i := i) (by omega)
      have : x % 128 * 128 ^ i ≤ 127 * 72057594037927936 := Nat.mul_le_mul (by omega) h8
      omega
  have hsum : c + x % 128 * 128 ^ i < 2 ^ 64 := by
    by_cases h : i = 9
    · subst h; have := h9 rfl; rw [pow128_9] at *; omega
    · have h8 := pow_le (i := i) (by omega)
      have : x % 128 * 128 ^ i ≤ 127 * 72057594037927936 := Nat.mul_le_mul (by omega) h8
      omega
  refine ⟨?_, hsum⟩
  have e1 : Go.bits .and .u8 (x : Int) 127 = ((x % 128 : Nat) : Int) := by rw [u8_and127 _ (by omega) (by omega)]; omega
  rw [e1, u64w (by omega) (by omega), i64w (by omega) (by omega)]
  unfold shl
  have e2 : (7 * (i : Int)).toNat = 7 * i := by omega
  have e3 : min (7 * i) IntKind.u64.bits = 7 * i := by simp [IntKind.bits]; omega
  rw [e2, e3]
  have e4 : ((x % 128 : Nat) : Int) * 2 ^ (7 * i) = ((x % 128 * 128 ^ i : Nat) : Int) := by
    rw [← two_pow7 i]; push_cast; rfl
  rw [e4, u64w (by omega) (by omega)]
  have e5 : (((x % 128 * 128 ^ i : Nat) : Int)) % 2 ^ (7 * i) = 0 := by
    have : (2 : Int) ^ (7 * i) = ((128 ^ i : Nat) : Int) := by rw [← two_pow7 i]; push_cast; rfl
    rw [this]
    have h1 : (x % 128 * 128 ^ i) % 128 ^ i = 0 := Nat.mul_mod_left _ _
    exact_mod_cast h1
  rw [u64_or_join (7 * i) (c : Int) _ (by omega) (by omega) (by have : (2 : Int) ^ (7 * i) = ((128 ^ i : Nat) : Int) := by { rw [← two_pow7 i]; push_cast; rfl }
                                                                rw [this]; exact_mod_cast hc) (by omega) e5 (by exact_mod_cast hb)]
  push_cast; rfl
theorem next_lt {i c x : Nat} (hc : c < 128 ^ i) : c + x % 128 * 128 ^ i < 128 ^ (i + 1) := by
  have h1 : (x % 128 + 1) * 128 ^ i ≤ 128 * 128 ^ i := Nat.mul_le_mul_right _ (by omega)
  rw [Nat.pow_succ, Nat.mul_comm (128 ^ i)]
  rw [Nat.add_mul] at h1
  omega
/-! ### the reference's Num -/
theorem ref_group {i c x : Nat} (hi : i ≤ 9) (hc : c < 128 ^ i) (hx : x ≤ 255) (h9 : i = 9 → x ≤ 1) :
    IntKind.u64.wrap ((c : Int) + (IntKind.u64.wrap ((IntKind.u64.wrap (Int.tmod (x : Int) 128)) * ((128 ^ i : Nat) : Int)))) = ((c + x % 128 * 128 ^ i : Nat) : Int) ∧ c + x % 128 * 128 ^ i < 2 ^ 64 := by
  have h := (group hi hc hx h9).2
  refine ⟨?_, h⟩
  rw [tmod_nn (by omega)]
  have e1 : (x : Int) % 128 = ((x % 128 : Nat) : Int) := by omega
  rw [e1, u64w (n := ((x % 128 : Nat) : Int)) (by omega) (by omega)]
  have e2 : ((x % 128 : Nat) : Int) * ((128 ^ i : Nat) : Int) = ((x % 128 * 128 ^ i : Nat) : Int) := by push_cast; rfl
  rw [e2, u64w (n := ((x % 128 * 128 ^ i : Nat) : Int)) (by omega) (by omega), u64w (by omega) (by omega)]
  push_cast; rfl
/-- What a number that was read is. -/
theorem rNum_ok {b : List UInt8} {p n q : Int} (hb : Byt b) (h : rNum b p = (n, q, 0)) :
    0 ≤ p ∧ p < q ∧ q ≤ (b.length : Int) ∧ -9223372036854775808 ≤ n ∧ n ≤ 9223372036854775807 ∧ q = p + ((enc (code n)).length : Int) ∧ (b.drop p.toNat).take (enc (code n)).length = enc (code n) := by
  unfold rNum at h
  by_cases ho : p < 0 ∨ p > (b.length : Int)
  · rw [if_pos ho] at h; simp at h
  · rw [if_neg ho] at h
    cases hd : dec (b.drop p.toNat) 0 0 with
    | trunc => rw [hd] at h; simp at h
    | syn => rw [hd] at h; simp at h
    | ok c k =>
      rw [hd] at h
      simp only [Prod.mk.injEq] at h
      obtain ⟨rfl, rfl, _⟩ := h
      obtain ⟨c', h1, h2, h3, h4, _, h6⟩ := dec_only _ 0 0 c k (by omega) hd
      simp at h1 h2 h6
      subst h1
      have hp := enc_pos c
      have hr := num_range h6
      rw [code_num]
      rw [List.length_drop] at h3
      exact ⟨by omega, by omega, by omega, hr.1, hr.2, by omega, h4⟩
theorem rNum_at (l : List UInt8) (n : Int) (r : List UInt8) (h0 : -9223372036854775808 ≤ n) (h1 : n ≤ 9223372036854775807) : rNum (l ++ (enc (code n) ++ r)) (l.length : Int) = (n, (l.length : Int) + ((enc (code n)).length : Int), 0) := by
  rw [rNum_in (by omega) (by simp; omega)]
  rw [Int.toNat_natCast, List.drop_left, dec_enc r (code n) 0 0 (by simpa using code_lt h0 h1) (.inl rfl)]
  simp [fin, num_code]
theorem rNum_torn (n : Int) (m : Nat) (h0 : -9223372036854775808 ≤ n) (h1 : n ≤ 9223372036854775807) (hm : m < (enc (code n)).length) : rNum ((enc (code n)).take m) 0 = (0, 0, 3) := by
  rw [rNum_in (by omega) (by omega)]
  have := dec_torn (code n) 0 0 m (by simpa using code_lt h0 h1) (.inl rfl) hm
  simp [this, fin]
theorem rNum_err {b : List UInt8} {p : Int} : (rNum b p).2.2 = 0 ∨ (rNum b p).2.2 = 1 ∨ (rNum b p).2.2 = 2 ∨ (rNum b p).2.2 = 3 := by
  unfold rNum
  split
  · simp
  · split <;> simp

/-! ### texts -/
def cat (s : List UInt8) : List UInt8 := enc (code (s.length : Int)) ++ s
theorem cat_len (s : List UInt8) : (cat s).length = (enc (code (s.length : Int))).length + s.length := by unfold cat; rw [List.length_append]
theorem cat_le (s : List UInt8) (hs : s.length ≤ 35184372088832) : (cat s).length ≤ 10 + s.length := by
  rw [cat_len]
  have e1 := enc_len10 (code_lt (n := (s.length : Int)) (by omega) (by omega))
  omega
/-! ### reading texts -/
def cut (b : List UInt8) (q n : Int) : List UInt8 := (b.take (q + n).toNat).drop q.toNat
def rText (b : List UInt8) (p lim : Int) : List UInt8 × Int × Int :=
  if (rNum b p).2.2 = 0 then
    if (rNum b p).1 < 0 then ([], 0, 2) else if (rNum b p).1 > lim then ([], 0, 5) else if (rNum b p).1 > (b.length : Int) - (rNum b p).2.1 then ([], 0, 3)
    else ((cut b (rNum b p).2.1 (rNum b p).1), (rNum b p).2.1 + (rNum b p).1, 0)
  else ([], 0, (rNum b p).2.2)
theorem rNum_split {b : List UInt8} {p : Int} (hb : Byt b) (h : (rNum b p).2.2 = 0) : 0 ≤ p ∧ p < (rNum b p).2.1 ∧ (rNum b p).2.1 ≤ (b.length : Int) ∧ -9223372036854775808 ≤ (rNum b p).1 ∧ (rNum b p).1 ≤ 9223372036854775807 := by
  have h2 := rNum_ok (n := (rNum b p).1) (q := (rNum b p).2.1) hb (by rw [← h])
  exact ⟨h2.1, h2.2.1, h2.2.2.1, h2.2.2.2.1, h2.2.2.2.2.1⟩
def rCount (b : List UInt8) (p lim : Int) : Int × Int × Int :=
  if (rNum b p).2.2 = 0 then if (rNum b p).1 < 0 then (0, 0, 2) else if (rNum b p).1 > lim then (0, 0, 5) else ((rNum b p).1, (rNum b p).2.1, 0) else (0, 0, (rNum b p).2.2)
theorem rText_ok {b : List UInt8} {p lim q : Int} {s : List UInt8} (hb : Byt b) (h : rText b p lim = (s, q, 0)) :
    0 ≤ p ∧ p < q ∧ q ≤ (b.length : Int) ∧ (s.length : Int) ≤ lim ∧ q = p + ((cat s).length : Int) ∧ (b.drop p.toNat).take (cat s).length = cat s := by
  unfold rText at h
  by_cases h0 : (rNum b p).2.2 = 0
  · rw [if_pos h0] at h
    by_cases h1 : (rNum b p).1 < 0
    · rw [if_pos h1] at h; simp at h
    · rw [if_neg h1] at h
      by_cases h2 : (rNum b p).1 > lim
      · rw [if_pos h2] at h; simp at h
      · rw [if_neg h2] at h
        by_cases h3 : (rNum b p).1 > (b.length : Int) - (rNum b p).2.1
        · rw [if_pos h3] at h; simp at h
        · rw [if_neg h3] at h
          simp only [Prod.mk.injEq, and_true] at h
          obtain ⟨rfl, rfl⟩ := h
          obtain ⟨g1, g2, g3, g4, g5, g6, g7⟩ := rNum_ok (n := (rNum b p).1) (q := (rNum b p).2.1) hb (by rw [← h0])
          generalize (rNum b p).1 = n at *
          generalize (rNum b p).2.1 = q at *
          have hcl : (cut b q n).length = n.toNat := by unfold cut; rw [List.length_drop, List.length_take]; omega
          have hsz : ((cut b q n)).length = n.toNat := hcl
          have hcat : cat ((cut b q n)) = enc (code n) ++ cut b q n := by
            unfold cat
            rw [hsz, show ((n.toNat : Nat) : Int) = n from by omega]
          have hlen : (cat ((cut b q n))).length = (enc (code n)).length + n.toNat := by rw [hcat, List.length_append, hcl]
          refine ⟨g1, by omega, by omega, by rw [hsz]; omega, by rw [hlen]; omega, ?_⟩
          rw [hlen, hcat, List.take_add, g7]
          congr 1
          rw [List.drop_drop]
          unfold cut
          rw [List.drop_take]
          congr 1
          · omega
          · congr 1; omega
  · rw [if_neg h0] at h
    simp only [Prod.mk.injEq] at h
    exact absurd h.2.2 h0
theorem rText_at (l : List UInt8) (s : List UInt8) (r : List UInt8) (lim : Int) (hs : (s.length : Int) ≤ lim) (hsz : s.length ≤ 35184372088832) : rText (l ++ (cat s ++ r)) (l.length : Int) lim = (s, (l.length : Int) + ((cat s).length : Int), 0) := by
  have e : l ++ (cat s ++ r) = l ++ (enc (code (s.length : Int)) ++ (s ++ r)) := by unfold cat; rw [List.append_assoc]
  unfold rText
  rw [e, rNum_at l (s.length : Int) (s ++ r) (by omega) (by omega)]
  dsimp only
  have hb := (rfl : s.length = s.length)
  rw [if_pos rfl, if_neg (by omega), if_neg (by omega), if_neg (by simp only [List.length_append]; omega)]
  have hc : cut (l ++ (enc (code (s.length : Int)) ++ (s ++ r))) ((l.length : Int) + ((enc (code (s.length : Int))).length : Int)) (s.length : Int) = s := by
    unfold cut
    rw [show ((l.length : Int) + ((enc (code (s.length : Int))).length : Int) + (s.length : Int)).toNat = l.length + ((enc (code (s.length : Int))).length + s.length) from by omega, show ((l.length : Int) + ((enc (code (s.length : Int))).length : Int)).toNat = l.length + (enc (code (s.length : Int))).length from by omega]
    rw [List.take_append, List.drop_append, List.take_of_length_le (by omega), List.drop_of_length_le (by omega), List.nil_append, Nat.add_sub_cancel_left, Nat.add_sub_cancel_left]
    rw [List.take_append, List.drop_append, List.take_of_length_le (by omega), List.drop_of_length_le (by omega), List.nil_append, Nat.add_sub_cancel_left, Nat.sub_self, List.drop_zero, ← hb, List.take_left]
  rw [hc, cat_len]
  simp only [Prod.mk.injEq, true_and, and_true]
  push_cast; omega
theorem rText_torn (s : List UInt8) (m : Nat) (lim : Int) (hs : (s.length : Int) ≤ lim) (hsz : s.length ≤ 35184372088832) (hm : m < (cat s).length) : rText ((cat s).take m) 0 lim = ([], 0, 3) := by
  rw [cat_len] at hm
  by_cases h : m < (enc (code (s.length : Int))).length
  · have e : (cat s).take m = (enc (code (s.length : Int))).take m := by unfold cat; rw [List.take_append_of_le_length (by omega)]
    unfold rText
    rw [e, rNum_torn (s.length : Int) m (by omega) (by omega) h]
    rfl
  · have e : (cat s).take m = [] ++ (enc (code (s.length : Int)) ++ s.take (m - (enc (code (s.length : Int))).length)) := by unfold cat; rw [List.take_append, List.take_of_length_le (by omega)]; rfl
    have h2 := rNum_at [] (s.length : Int) (s.take (m - (enc (code (s.length : Int))).length)) (by omega) (by omega)
    unfold rText
    rw [e]
    simp only [List.length_nil] at h2
    rw [show ((0 : Nat) : Int) = 0 from rfl] at h2
    rw [h2]
    dsimp only
    have hb := (rfl : s.length = s.length)
    rw [if_pos rfl, if_neg (by omega), if_neg (by omega), if_pos (by simp only [List.length_append, List.length_take, List.length_nil]; omega)]
end Go.Proofs.Ytkklehfcadkikaa.EVT
/- Plain facts on numbers, bits, bytes: frames and records; no program in sight. -/

set_option linter.unusedVariables false
set_option linter.unusedSimpArgs false
namespace Go.Proofs.Ytkklehfcadkikaa.EVT
open Go Go.EV


def stp (s x : Nat) : Nat := ((s ^^^ x) * 16777619) % 4294967296
def fnv : Nat → List UInt8 → Nat
  | s, [] => s
  | s, x :: r => fnv (stp s x.toNat) r
def sum (l : List UInt8) : Nat := fnv 2166136261 l
theorem stp_lt (s x : Nat) : stp s x < 4294967296 := Nat.mod_lt _ (by decide)
theorem fnv_lt : ∀ (l : List UInt8) (s : Nat), s < 4294967296 → fnv s l < 4294967296
  | [], s, h => h
  | x :: r, s, h => fnv_lt r _ (stp_lt _ _)
theorem sum_lt (l : List UInt8) : sum l < 4294967296 := fnv_lt l _ (by decide)
theorem fnv_append : ∀ (a b : List UInt8) (s : Nat), fnv s (a ++ b) = fnv (fnv s a) b
  | [], b, s => rfl
  | x :: a, b, s => fnv_append a b _
theorem xor_lt {s x : Nat} (hs : s < 4294967296) (hx : x < 4294967296) : s ^^^ x < 4294967296 := Nat.xor_lt_two_pow (n := 32) hs hx
theorem frame_step {s x : Nat} (hs : s < 4294967296) (hx : x ≤ 255) : (Go.bits .xor .u32 (s : Int) ((x : Int) % 4294967296) * 16777619) % 4294967296 = ((stp s x : Nat) : Int) := by
  have e : (x : Int) % 4294967296 = (x : Int) := by omega
  rw [e, bits_xor_nat .u32 32 (by decide) wraps_u32 s x (by omega) (by omega)]
  unfold stp
  generalize s ^^^ x = y
  omega
theorem ref4_step {s x : Nat} (hs : s < 4294967296) (hx : x ≤ 255) : Int.tmod (IntKind.u64.wrap (Go.bits .xor .u64 (s : Int) (IntKind.u64.wrap (x : Int)) * 16777619)) 4294967296 = ((stp s x : Nat) : Int) := by
  have h := xor_lt hs (x := x) (by omega)
  rw [u64w (n := (x : Int)) (by omega) (by omega), bits_xor_nat .u64 64 (by decide) wraps_u64 s x (by omega) (by omega), u64w (by omega) (by omega), tmod_nn (by omega)]
  unfold stp
  generalize s ^^^ x = y at *
  omega
/-! ### frames -/
def be4 (s : Nat) : List UInt8 := [UInt8.ofNat (s / 16777216 % 256), UInt8.ofNat (s / 65536 % 256), UInt8.ofNat (s / 256 % 256), UInt8.ofNat (s % 256)]
def wrapF (b : List UInt8) : List UInt8 := enc (code (b.length : Int)) ++ (be4 (sum b) ++ b)
theorem wrapF_len (b : List UInt8) : (wrapF b).length = (enc (code (b.length : Int))).length + 4 + b.length := by
  unfold wrapF; simp only [List.length_append]; simp [be4]; omega
def sizeF (n : Int) : Int := if n < 0 ∨ n > 65536 then 0 else ((enc (code n)).length : Int) + 4 + n
theorem sizeF_len (b : List UInt8) (h : b.length ≤ 65536) : sizeF (b.length : Int) = ((wrapF b).length : Int) := by
  unfold sizeF; rw [if_neg (by omega), wrapF_len]; omega

/-! ### reading a frame -/
def pay (b : List UInt8) (q n : Int) : List UInt8 := cut b (q + 4) n
def rNext (b : List UInt8) (p : Int) : List UInt8 × Int × Int :=
  if (rNum b p).2.2 = 0 then
    if (rNum b p).1 < 0 then ([], 0, 2) else if (rNum b p).1 > 65536 then ([], 0, 5) else if (b.length : Int) - (rNum b p).2.1 < 4 + (rNum b p).1 then ([], 0, 3)
    else if cut b (rNum b p).2.1 4 = be4 (sum (pay b (rNum b p).2.1 (rNum b p).1)) then (pay b (rNum b p).2.1 (rNum b p).1, (rNum b p).2.1 + 4 + (rNum b p).1, 0) else ([], 0, 4)
  else ([], 0, (rNum b p).2.2)
theorem cut_length {b : List UInt8} {q n : Int} (h0 : 0 ≤ q) (h1 : 0 ≤ n) (h2 : q + n ≤ (b.length : Int)) : (cut b q n).length = n.toNat := by
  unfold cut; rw [List.length_drop, List.length_take]; omega
theorem cut_byt {b : List UInt8} (hb : Byt b) (q n : Int) : Byt (cut b q n) := trivial
theorem be4_iff {c : List UInt8} (hl : c.length = 4) {s : Nat} (hs : s < 4294967296) :
    (((c.getD 0 0).toNat * 16777216 + (c.getD 1 0).toNat * 65536 + (c.getD 2 0).toNat * 256 + (c.getD 3 0).toNat : Nat) = s) ↔ c = be4 s := by
  match c, hl with
  | [a, b, d, e], _ =>
    have ha := u8lt a; have hb := u8lt b; have hd := u8lt d; have he := u8lt e
    have r0 : [a, b, d, e].getD 0 0 = a := rfl
    have r1 : [a, b, d, e].getD 1 0 = b := rfl
    have r2 : [a, b, d, e].getD 2 0 = d := rfl
    have r3 : [a, b, d, e].getD 3 0 = e := rfl
    rw [r0, r1, r2, r3]
    unfold be4
    simp only [List.cons.injEq, and_true]
    constructor
    · intro h
      exact ⟨u8ext (by rw [u8n (by omega)]; omega), u8ext (by rw [u8n (by omega)]; omega), u8ext (by rw [u8n (by omega)]; omega), u8ext (by rw [u8n (by omega)]; omega)⟩
    · rintro ⟨h1, h2, h3, h4⟩
      have k1 := congrArg UInt8.toNat h1; have k2 := congrArg UInt8.toNat h2; have k3 := congrArg UInt8.toNat h3; have k4 := congrArg UInt8.toNat h4
      rw [u8n (by omega)] at k1 k2 k3 k4
      omega
theorem cut_split {b : List UInt8} {p q n : Int} (h0 : 0 ≤ p) (h1 : p ≤ q) (h2 : 0 ≤ n) : cut b p (q - p + n) = cut b p (q - p) ++ cut b q n := by
  unfold cut
  rw [show (p + (q - p + n)).toNat = q.toNat + n.toNat from by omega, show (p + (q - p)).toNat = q.toNat from by omega, show (q + n).toNat = q.toNat + n.toNat from by omega]
  by_cases h : q.toNat ≤ b.length
  · rw [List.take_add, List.drop_append, List.length_take, List.drop_append]
    rw [show p.toNat - min q.toNat b.length = 0 from by omega]
    rw [List.drop_zero]
    congr 1
    rw [List.drop_of_length_le (l := List.take q.toNat b) (by rw [List.length_take]; omega), List.nil_append, List.length_take, show q.toNat - min q.toNat b.length = 0 from by omega, List.drop_zero]
  · rw [List.take_of_length_le (i := q.toNat) (by omega), List.take_of_length_le (by omega), List.drop_of_length_le (i := q.toNat) (by omega), List.append_nil]

theorem cut_mid (l c r : List UInt8) {q n : Int} (hq : q = (l.length : Int)) (hn : n = (c.length : Int)) : cut (l ++ (c ++ r)) q n = c := by
  subst hq; subst hn
  unfold cut
  rw [show ((l.length : Int) + (c.length : Int)).toNat = l.length + c.length from by omega, Int.toNat_natCast]
  rw [List.take_append, List.drop_append, List.take_of_length_le (by omega), List.drop_of_length_le (by omega), List.nil_append, Nat.add_sub_cancel_left, Nat.sub_self, List.drop_zero, List.take_left]
theorem be4_length (s : Nat) : (be4 s).length = 4 := rfl
/-- A frame, or what looks like one (any four bytes in the checksum's place), read at its place. -/
theorem rNext_at (l c p r : List UInt8) (hc : c.length = 4) (hp : p.length ≤ 65536) :
    rNext (l ++ (enc (code (p.length : Int)) ++ (c ++ (p ++ r)))) (l.length : Int) = if c = be4 (sum p) then (p, (l.length : Int) + ((enc (code (p.length : Int))).length : Int) + 4 + (p.length : Int), 0) else ([], 0, 4) := by
  have h1 := rNum_at l (p.length : Int) (c ++ (p ++ r)) (by omega) (by omega)
  unfold rNext
  rw [h1]
  dsimp only
  have e1 : l ++ (enc (code (p.length : Int)) ++ (c ++ (p ++ r))) = (l ++ enc (code (p.length : Int))) ++ (c ++ (p ++ r)) := by simp
  have e2 : l ++ (enc (code (p.length : Int)) ++ (c ++ (p ++ r))) = (l ++ enc (code (p.length : Int)) ++ c) ++ (p ++ r) := by simp
  have c1 : cut (l ++ (enc (code (p.length : Int)) ++ (c ++ (p ++ r)))) ((l.length : Int) + ((enc (code (p.length : Int))).length : Int)) 4 = c := by
    rw [e1]; exact cut_mid _ _ _ (by simp) (by rw [hc]; rfl)
  have c2 : pay (l ++ (enc (code (p.length : Int)) ++ (c ++ (p ++ r)))) ((l.length : Int) + ((enc (code (p.length : Int))).length : Int)) (p.length : Int) = p := by
    unfold pay
    rw [e2]; exact cut_mid _ _ _ (by simp [hc]; omega) rfl
  rw [c1, c2, if_pos rfl, if_neg (by omega), if_neg (by omega), if_neg (by simp only [List.length_append]; omega)]
theorem rNext_wrap (l p r : List UInt8) (hp : p.length ≤ 65536) : rNext (l ++ (wrapF p ++ r)) (l.length : Int) = (p, (l.length : Int) + ((wrapF p).length : Int), 0) := by
  have h := rNext_at l (be4 (sum p)) p r rfl hp
  rw [if_pos rfl] at h
  have e : l ++ (wrapF p ++ r) = l ++ (enc (code (p.length : Int)) ++ (be4 (sum p) ++ (p ++ r))) := by simp [wrapF]
  rw [e, h, wrapF_len]
  simp only [Prod.mk.injEq, true_and, and_true]
  omega
theorem rNext_ok {b : List UInt8} {p q : Int} {x : List UInt8} (hb : Byt b) (h : rNext b p = (x, q, 0)) :
    0 ≤ p ∧ p < q ∧ q ≤ (b.length : Int) ∧ x.length ≤ 65536 ∧ q = p + ((wrapF x).length : Int) ∧ (b.drop p.toNat).take (wrapF x).length = wrapF x ∧ Byt x := by
  unfold rNext at h
  by_cases h0 : (rNum b p).2.2 = 0
  · rw [if_pos h0] at h
    by_cases h1 : (rNum b p).1 < 0
    · rw [if_pos h1] at h; simp at h
    · rw [if_neg h1] at h
      by_cases h2 : (rNum b p).1 > 65536
      · rw [if_pos h2] at h; simp at h
      · rw [if_neg h2] at h
        by_cases h3 : (b.length : Int) - (rNum b p).2.1 < 4 + (rNum b p).1
        · rw [if_pos h3] at h; simp at h
        · rw [if_neg h3] at h
          by_cases h4 : cut b (rNum b p).2.1 4 = be4 (sum (pay b (rNum b p).2.1 (rNum b p).1))
          · rw [if_pos h4] at h
            simp only [Prod.mk.injEq, and_true] at h
            obtain ⟨rfl, rfl⟩ := h
            obtain ⟨g1, g2, g3, g4, g5, g6, g7⟩ := rNum_ok (n := (rNum b p).1) (q := (rNum b p).2.1) hb (by rw [← h0])
            generalize (rNum b p).1 = n at *
            generalize (rNum b p).2.1 = q at *
            have hl : (pay b q n).length = n.toNat := cut_length (by omega) (by omega) (by omega)
            have hw := wrapF_len (pay b q n)
            rw [hl, show ((n.toNat : Nat) : Int) = n from by omega] at hw
            refine ⟨g1, by omega, by omega, by omega, by omega, ?_, cut_byt hb _ _⟩
            have e0 : (b.drop p.toNat).take (wrapF (pay b q n)).length = cut b p (q - p + (4 + n)) := by
              unfold cut; rw [List.drop_take]; congr 1; omega
            have e1 : cut b p (q - p) = enc (code n) := by
              unfold cut
              rw [← g7, List.drop_take]; congr 1; omega
            have e2 : cut b q (4 + n) = cut b q 4 ++ pay b q n := by
              have := cut_split (b := b) (p := q) (q := q + 4) (n := n) (by omega) (by omega) (by omega)
              rw [show q + 4 - q = 4 from by omega] at this
              exact this
            rw [e0, cut_split (by omega) (by omega) (by omega), e1, e2, h4]
            unfold wrapF
            rw [hl, show ((n.toNat : Nat) : Int) = n from by omega]
          · rw [if_neg h4] at h; simp at h
  · rw [if_neg h0] at h
    simp only [Prod.mk.injEq] at h
    exact absurd h.2.2 h0
theorem rNext_zero {b : List UInt8} {p : Int} (h : (rNext b p).2.2 ≠ 0) : (rNext b p).1 = [] ∧ (rNext b p).2.1 = 0 := by
  unfold rNext at h ⊢
  by_cases h0 : (rNum b p).2.2 = 0
  · simp only [if_pos h0] at h ⊢
    by_cases h1 : (rNum b p).1 < 0
    · simp only [if_pos h1, and_self]
    · simp only [if_neg h1] at h ⊢
      by_cases h2 : (rNum b p).1 > 65536
      · simp only [if_pos h2, and_self]
      · simp only [if_neg h2] at h ⊢
        by_cases h3 : (b.length : Int) - (rNum b p).2.1 < 4 + (rNum b p).1
        · simp only [if_pos h3, and_self]
        · simp only [if_neg h3] at h ⊢
          by_cases h4 : cut b (rNum b p).2.1 4 = be4 (sum (pay b (rNum b p).2.1 (rNum b p).1))
          · simp only [if_pos h4] at h; exact absurd rfl h
          · simp only [if_neg h4, and_self]
  · simp only [if_neg h0, and_self]
/-- A frame that ends too early is torn. -/
theorem rNext_torn (l p : List UInt8) (m : Nat) (hp : p.length ≤ 65536) (hm : m < (wrapF p).length) : rNext (l ++ (wrapF p).take m) (l.length : Int) = ([], 0, 3) := by
  rw [wrapF_len] at hm
  unfold rNext
  by_cases h : m < (enc (code (p.length : Int))).length
  · have e : (wrapF p).take m = (enc (code (p.length : Int))).take m := by unfold wrapF; rw [List.take_append_of_le_length (by omega)]
    have h2 : rNum (l ++ (enc (code (p.length : Int))).take m) (l.length : Int) = (0, 0, 3) := by
      rw [rNum_in (by omega) (by rw [List.length_append]; omega), Int.toNat_natCast, List.drop_left]
      have := dec_torn (code (p.length : Int)) 0 0 m (by simpa using code_lt (n := (p.length : Int)) (by omega) (by omega)) (.inl rfl) h
      simp [this, fin]
    rw [e, h2]
    rfl
  · have e : (wrapF p).take m = enc (code (p.length : Int)) ++ (be4 (sum p) ++ p).take (m - (enc (code (p.length : Int))).length) := by unfold wrapF; rw [List.take_append, List.take_of_length_le (by omega)]
    rw [e, rNum_at l (p.length : Int) _ (by omega) (by omega)]
    dsimp only
    rw [if_pos rfl, if_neg (by omega), if_neg (by omega), if_pos (by simp only [List.length_append, List.length_take, be4_length]; omega)]


def ck2 (b : Bool) (n : Int) (v : List UInt8) : Int := if b = true then 5 else if n = 1 then 0 else if v = [] then 0 else 28
def ck1 (b : Bool) (n : Int) (s v : List UInt8) : Int := if b = true then 10 else if s = [] then 1 else ck2 (decide ((s.length : Int) > 64 ∨ (v.length : Int) > 4096)) n v
def ck0 (b : Bool) (n : Int) (s v : List UInt8) : Int := if b = true then 1 else ck1 (decide (¬ (n = 1 ∨ n = 2 ∨ n = 3))) n s v
def chk (o n : Int) (s v : List UInt8) : Int := ck0 (decide (o < 0 ∨ o > 1099511627776)) n s v
theorem chk_zero {o n : Int} {s v : List UInt8} : chk o n s v = 0 ↔ 0 ≤ o ∧ o ≤ 1099511627776 ∧ (n = 1 ∨ n = 2 ∨ n = 3) ∧ s ≠ [] ∧ s.length ≤ 64 ∧ v.length ≤ 4096 ∧ (n = 1 ∨ v = []) := by
  unfold chk ck0
  by_cases h0 : o < 0 ∨ o > 1099511627776
  · rw [if_pos (by simpa using h0)]; exact ⟨fun h => absurd h (by decide), fun h => by omega⟩
  rw [if_neg (by simpa using h0)]
  unfold ck1
  by_cases h1 : n = 1 ∨ n = 2 ∨ n = 3
  · rw [if_neg (fun hh => (of_decide_eq_true hh) h1)]
    by_cases h2 : s = []
    · rw [if_pos h2]; exact ⟨fun h => absurd h (by decide), fun h => absurd h2 h.2.2.2.1⟩
    rw [if_neg h2]
    unfold ck2
    by_cases h3 : (s.length : Int) > 64 ∨ (v.length : Int) > 4096
    · rw [if_pos (by simpa using h3)]; exact ⟨fun h => absurd h (by decide), fun h => by omega⟩
    rw [if_neg (by simpa using h3)]
    by_cases h4 : n = 1
    · rw [if_pos h4]; exact ⟨fun _ => ⟨by omega, by omega, h1, h2, by omega, by omega, .inl h4⟩, fun _ => rfl⟩
    rw [if_neg h4]
    by_cases h5 : v = []
    · rw [if_pos h5]; exact ⟨fun _ => ⟨by omega, by omega, h1, h2, by omega, by omega, .inr h5⟩, fun _ => rfl⟩
    rw [if_neg h5]; exact ⟨fun h => absurd h (by decide), fun h => by exact absurd h.2.2.2.2.2.2 (fun hh => hh.elim h4 h5)⟩
  · rw [if_pos (decide_eq_true h1)]; exact ⟨fun h => absurd h (by decide), fun h => absurd h.2.2.1 h1⟩
theorem chk_3 {o n : Int} {s v : List UInt8} : chk o n s v ≠ 3 ∧ chk o n s v ≠ 4 := by
  unfold chk ck0 ck1 ck2
  repeat' split
  all_goals decide

/-! ### the framed form -/
def pld (o n : Int) (s v : List UInt8) : List UInt8 := enc (code o) ++ (enc (code n) ++ (cat s ++ cat v))
theorem pld_len {o n : Int} {s v : List UInt8} (h : chk o n s v = 0) : 5 ≤ (pld o n s v).length ∧ (pld o n s v).length ≤ 4200 := by
  obtain ⟨h0, h1, h2, h3, h4, h5, h6⟩ := chk_zero.1 h
  have hs : 1 ≤ s.length := by
    rcases Nat.eq_zero_or_pos s.length with hz | hz
    · exact absurd (List.eq_nil_of_length_eq_zero hz) h3
    · exact hz
  have a1 := enc_pos (code o); have a2 := enc_pos (code n); have a3 := enc_pos (code (s.length : Int)); have a4 := enc_pos (code (v.length : Int))
  have b1 := enc_len10 (code_lt (n := o) (by omega) (by omega)); have b2 := enc_len10 (code_lt (n := n) (by omega) (by omega)); have b3 := cat_le s (by omega); have b4 := cat_le v (by omega)
  have c3 := cat_len s; have c4 := cat_len v
  unfold pld
  simp only [List.length_append]
  omega
/-- The framed form of a valid record. -/
def rec_ (o n : Int) (s v : List UInt8) : List UInt8 := wrapF (pld o n s v)
theorem rec_len {o n : Int} {s v : List UInt8} (h : chk o n s v = 0) : 10 ≤ (rec_ o n s v).length ∧ (rec_ o n s v).length ≤ 4214 := by
  have h1 := pld_len h
  have h2 := wrapF_len (pld o n s v)
  have h3 := enc_pos (code ((pld o n s v).length : Int)); have h4 := enc_len10 (code_lt (n := ((pld o n s v).length : Int)) (by omega) (by omega))
  unfold rec_
  omega
def rEnc (o n : Int) (s v : List UInt8) : List UInt8 × Int := if chk o n s v = 0 then (rec_ o n s v, 0) else ([], chk o n s v)
/-! ### reading a record -/
def rDec (b : List UInt8) (p : Int) : Int × Int × List UInt8 × List UInt8 × Int × Int :=
  if (rNext b p).2.2 = 0 then
    if (rNum (rNext b p).1 0).2.2 = 0 then
      if (rNum (rNext b p).1 (rNum (rNext b p).1 0).2.1).2.2 = 0 then
        if (rText (rNext b p).1 (rNum (rNext b p).1 (rNum (rNext b p).1 0).2.1).2.1 64).2.2 = 0 then
          if (rText (rNext b p).1 (rText (rNext b p).1 (rNum (rNext b p).1 (rNum (rNext b p).1 0).2.1).2.1 64).2.1 4096).2.2 = 0 then
            if (rText (rNext b p).1 (rText (rNext b p).1 (rNum (rNext b p).1 (rNum (rNext b p).1 0).2.1).2.1 64).2.1 4096).2.1 < ((rNext b p).1.length : Int) then (0, 0, ([] : List UInt8), ([] : List UInt8), 0, 2)
            else if chk (rNum (rNext b p).1 0).1 (rNum (rNext b p).1 (rNum (rNext b p).1 0).2.1).1 (rText (rNext b p).1 (rNum (rNext b p).1 (rNum (rNext b p).1 0).2.1).2.1 64).1 (rText (rNext b p).1 (rText (rNext b p).1 (rNum (rNext b p).1 (rNum (rNext b p).1 0).2.1).2.1 64).2.1 4096).1 = 0
              then ((rNum (rNext b p).1 0).1, (rNum (rNext b p).1 (rNum (rNext b p).1 0).2.1).1, (rText (rNext b p).1 (rNum (rNext b p).1 (rNum (rNext b p).1 0).2.1).2.1 64).1, (rText (rNext b p).1 (rText (rNext b p).1 (rNum (rNext b p).1 (rNum (rNext b p).1 0).2.1).2.1 64).2.1 4096).1, (rNext b p).2.1, 0)
              else (0, 0, ([] : List UInt8), ([] : List UInt8), 0, chk (rNum (rNext b p).1 0).1 (rNum (rNext b p).1 (rNum (rNext b p).1 0).2.1).1 (rText (rNext b p).1 (rNum (rNext b p).1 (rNum (rNext b p).1 0).2.1).2.1 64).1 (rText (rNext b p).1 (rText (rNext b p).1 (rNum (rNext b p).1 (rNum (rNext b p).1 0).2.1).2.1 64).2.1 4096).1)
          else (0, 0, ([] : List UInt8), ([] : List UInt8), 0, (rText (rNext b p).1 (rText (rNext b p).1 (rNum (rNext b p).1 (rNum (rNext b p).1 0).2.1).2.1 64).2.1 4096).2.2)
        else (0, 0, ([] : List UInt8), ([] : List UInt8), 0, (rText (rNext b p).1 (rNum (rNext b p).1 (rNum (rNext b p).1 0).2.1).2.1 64).2.2)
      else (0, 0, ([] : List UInt8), ([] : List UInt8), 0, (rNum (rNext b p).1 (rNum (rNext b p).1 0).2.1).2.2)
    else (0, 0, ([] : List UInt8), ([] : List UInt8), 0, (rNum (rNext b p).1 0).2.2)
  else (0, 0, ([] : List UInt8), ([] : List UInt8), 0, (rNext b p).2.2)
theorem rNext_byt {b : List UInt8} (hb : Byt b) (p : Int) : Byt (rNext b p).1 ∧ (rNext b p).1.length ≤ 65536 := by
  by_cases h : (rNext b p).2.2 = 0
  · obtain ⟨g1, g2, g3, g4, g5, g6, g7⟩ := rNext_ok (p := p) (x := (rNext b p).1) (q := (rNext b p).2.1) hb (Prod.ext rfl (Prod.ext rfl h))
    exact ⟨g7, g4⟩
  · rw [(rNext_zero h).1]; exact ⟨trivial, by simp⟩
theorem rDec_pld {b : List UInt8} {p q : Int} {o n : Int} {s v : List UInt8} (hc : chk o n s v = 0) (h : rNext b p = (pld o n s v, q, 0)) : rDec b p = (o, n, s, v, q, 0) := by
  obtain ⟨h0, h1, h2, h3, h4, h5, h6⟩ := chk_zero.1 hc
  have e1 : rNum (pld o n s v) 0 = (o, ((enc (code o)).length : Int), 0) := by
    have := rNum_at [] o (enc (code n) ++ (cat s ++ cat v)) (by omega) (by omega)
    simpa [pld] using this
  have e2 : rNum (pld o n s v) ((enc (code o)).length : Int) = (n, ((enc (code o)).length : Int) + ((enc (code n)).length : Int), 0) := rNum_at (enc (code o)) n (cat s ++ cat v) (by omega) (by omega)
  have e3 : rText (pld o n s v) (((enc (code o)).length : Int) + ((enc (code n)).length : Int)) 64 = (s, ((enc (code o)).length : Int) + ((enc (code n)).length : Int) + ((cat s).length : Int), 0) := by
    have := rText_at (enc (code o) ++ enc (code n)) s (cat v) 64 (by omega) (by omega)
    simpa [pld, Int.natCast_add] using this
  have e4 : rText (pld o n s v) (((enc (code o)).length : Int) + ((enc (code n)).length : Int) + ((cat s).length : Int)) 4096 = (v, ((enc (code o)).length : Int) + ((enc (code n)).length : Int) + ((cat s).length : Int) + ((cat v).length : Int), 0) := by
    have := rText_at (enc (code o) ++ (enc (code n) ++ cat s)) v [] 4096 (by omega) (by omega)
    simpa [pld, Int.natCast_add, Int.add_assoc] using this
  have hl : ((pld o n s v).length : Int) = ((enc (code o)).length : Int) + ((enc (code n)).length : Int) + ((cat s).length : Int) + ((cat v).length : Int) := by unfold pld; simp only [List.length_append]; omega
  unfold rDec
  rw [h]
  dsimp only
  rw [if_pos rfl, e1]
  dsimp only
  rw [if_pos rfl, e2]
  dsimp only
  rw [if_pos rfl, e3]
  dsimp only
  rw [if_pos rfl, e4]
  dsimp only
  rw [if_pos rfl, if_neg (by omega), if_pos hc]
theorem rDec_at (l r : List UInt8) {o n : Int} {s v : List UInt8} (hc : chk o n s v = 0) : rDec (l ++ (rec_ o n s v ++ r)) (l.length : Int) = (o, n, s, v, (l.length : Int) + ((rec_ o n s v).length : Int), 0) :=
  rDec_pld hc (rNext_wrap l (pld o n s v) r (by have := pld_len hc; omega))
theorem rDec_err {b : List UInt8} {p : Int} (h : (rNext b p).2.2 ≠ 0) : rDec b p = (0, 0, ([] : List UInt8), ([] : List UInt8), 0, (rNext b p).2.2) := by unfold rDec; rw [if_neg h]
theorem rDec_zero {b : List UInt8} {p : Int} (h : (rDec b p).2.2.2.2.2 ≠ 0) : rDec b p = (0, 0, ([] : List UInt8), ([] : List UInt8), 0, (rDec b p).2.2.2.2.2) := by
  revert h
  unfold rDec
  repeat' split
  all_goals first | (intro h; rfl) | (intro h; exact absurd rfl h)
theorem take_app {b a c : List UInt8} {i j : Nat} (h1 : (b.drop i).take a.length = a) (h2 : (b.drop (i + a.length)).take c.length = c) : (b.drop i).take (a.length + c.length) = a ++ c := by
  rw [List.take_add, h1, List.drop_drop, h2]
theorem rDec_ok {b : List UInt8} {p o n q : Int} {s v : List UInt8} (hb : Byt b) (h : rDec b p = (o, n, s, v, q, 0)) :
    0 ≤ p ∧ q ≤ (b.length : Int) ∧ chk o n s v = 0 ∧ q = p + ((rec_ o n s v).length : Int) ∧ (b.drop p.toNat).take (rec_ o n s v).length = rec_ o n s v := by
  by_cases h0 : (rNext b p).2.2 = 0
  · obtain ⟨g1, g2, g3, g4, g5, g6, g7⟩ := rNext_ok (p := p) (x := (rNext b p).1) (q := (rNext b p).2.1) hb (Prod.ext rfl (Prod.ext rfl h0))
    unfold rDec at h
    rw [if_pos h0] at h
    generalize (rNext b p).1 = x at *
    generalize (rNext b p).2.1 = q' at *
    by_cases h1 : (rNum x 0).2.2 = 0
    · rw [if_pos h1] at h
      by_cases h2 : (rNum x (rNum x 0).2.1).2.2 = 0
      · rw [if_pos h2] at h
        by_cases h3 : (rText x (rNum x (rNum x 0).2.1).2.1 64).2.2 = 0
        · rw [if_pos h3] at h
          by_cases h4 : (rText x (rText x (rNum x (rNum x 0).2.1).2.1 64).2.1 4096).2.2 = 0
          · rw [if_pos h4] at h
            by_cases h5 : (rText x (rText x (rNum x (rNum x 0).2.1).2.1 64).2.1 4096).2.1 < (x.length : Int)
            · rw [if_pos h5] at h; simp at h
            · rw [if_neg h5] at h
              by_cases h6 : chk (rNum x 0).1 (rNum x (rNum x 0).2.1).1 (rText x (rNum x (rNum x 0).2.1).2.1 64).1 (rText x (rText x (rNum x (rNum x 0).2.1).2.1 64).2.1 4096).1 = 0
              · rw [if_pos h6] at h
                simp only [Prod.mk.injEq] at h
                obtain ⟨k1, k2, k3, k4, k5, _⟩ := h
                obtain ⟨a1, a2, a3, a4, a5, a6, a7⟩ := rNum_ok (p := 0) (n := (rNum x 0).1) (q := (rNum x 0).2.1) g7 (Prod.ext rfl (Prod.ext rfl h1))
                obtain ⟨b1, b2, b3, b4, b5, b6, b7⟩ := rNum_ok (n := (rNum x (rNum x 0).2.1).1) (q := (rNum x (rNum x 0).2.1).2.1) g7 (Prod.ext rfl (Prod.ext rfl h2))
                obtain ⟨c1, c2, c3, c4, c5, c6⟩ := rText_ok (s := (rText x (rNum x (rNum x 0).2.1).2.1 64).1) (q := (rText x (rNum x (rNum x 0).2.1).2.1 64).2.1) g7 (Prod.ext rfl (Prod.ext rfl h3))
                obtain ⟨d1, d2, d3, d4, d5, d6⟩ := rText_ok (s := (rText x (rText x (rNum x (rNum x 0).2.1).2.1 64).2.1 4096).1) (q := (rText x (rText x (rNum x (rNum x 0).2.1).2.1 64).2.1 4096).2.1) g7 (Prod.ext rfl (Prod.ext rfl h4))
                generalize (rText x (rText x (rNum x (rNum x 0).2.1).2.1 64).2.1 4096).1 = y4 at *
                generalize (rText x (rText x (rNum x (rNum x 0).2.1).2.1 64).2.1 4096).2.1 = q4 at *
                generalize (rText x (rNum x (rNum x 0).2.1).2.1 64).1 = y3 at *
                generalize (rText x (rNum x (rNum x 0).2.1).2.1 64).2.1 = q3 at *
                generalize (rNum x (rNum x 0).2.1).1 = y2 at *
                generalize (rNum x (rNum x 0).2.1).2.1 = q2 at *
                generalize (rNum x 0).1 = y1 at *
                generalize (rNum x 0).2.1 = q1 at *
                subst k1; subst k2; subst k3; subst k4; subst k5
                have e : x = pld y1 y2 y3 y4 := by
                  rw [show (0 : Int).toNat = 0 from rfl] at a7
                  rw [show q1.toNat = 0 + (enc (code y1)).length from by omega] at b7
                  rw [show q2.toNat = 0 + (enc (code y1) ++ enc (code y2)).length from by rw [List.length_append]; omega] at c6
                  rw [show q3.toNat = 0 + (enc (code y1) ++ enc (code y2) ++ cat y3).length from by simp only [List.length_append]; omega] at d6
                  have t1 := take_app (j := 0) a7 b7
                  rw [← List.length_append] at t1
                  have t2 := take_app (j := 0) t1 c6
                  rw [← List.length_append] at t2
                  have t3 := take_app (j := 0) t2 d6
                  rw [← List.length_append, List.drop_zero, List.take_of_length_le (by simp only [List.length_append]; omega)] at t3
                  rw [t3]; simp [pld]
                subst e
                exact ⟨g1, g3, h6, g5, g6⟩
              · rw [if_neg h6] at h; simp only [Prod.mk.injEq] at h; exact absurd h.2.2.2.2.2 h6
          · rw [if_neg h4] at h; simp only [Prod.mk.injEq] at h; exact absurd h.2.2.2.2.2 h4
        · rw [if_neg h3] at h; simp only [Prod.mk.injEq] at h; exact absurd h.2.2.2.2.2 h3
      · rw [if_neg h2] at h; simp only [Prod.mk.injEq] at h; exact absurd h.2.2.2.2.2 h2
    · rw [if_neg h1] at h; simp only [Prod.mk.injEq] at h; exact absurd h.2.2.2.2.2 h1
  · rw [rDec_err h0] at h; simp only [Prod.mk.injEq] at h; exact absurd h.2.2.2.2.2 h0

def sNum (b : List UInt8) (p e : Int) : Int × Int × Int := if e = 0 then (if (rNum b p).2.2 = 0 then ((rNum b p).1, (rNum b p).2.1, e) else (0, p, (rNum b p).2.2)) else (0, p, e)
def sText (b : List UInt8) (p e lim : Int) : List UInt8 × Int × Int := if e = 0 then (if (rText b p lim).2.2 = 0 then ((rText b p lim).1, (rText b p lim).2.1, e) else (([] : List UInt8), p, (rText b p lim).2.2)) else (([] : List UInt8), p, e)
end Go.Proofs.Ytkklehfcadkikaa.EVT
/- Plain facts on numbers, bits, bytes: segments; no program in sight. -/

set_option linter.unusedVariables false
set_option linter.unusedSimpArgs false
namespace Go.Proofs.Ytkklehfcadkikaa.EVT
open Go Go.EV


/-- A record, as the typed layer has it. -/
abbrev Rec := Int × Int × List UInt8 × List UInt8
/-- A record without its offset: kind, key, value. -/
abbrev RV := Int × List UInt8 × List UInt8
/-- The bytes of records with the offsets o, o+1, .. -/
def segB : Int → List RV → List UInt8
  | _, [] => []
  | o, (n, s, v) :: r => rec_ o n s v ++ segB (o + 1) r
def okL : Int → List RV → Prop
  | _, [] => True
  | o, (n, s, v) :: r => chk o n s v = 0 ∧ okL (o + 1) r
def recL : Int → List RV → List Rec
  | _, [] => []
  | o, (n, s, v) :: r => ((o, n, s, v) : Rec) :: recL (o + 1) r
theorem recL_len : ∀ (L : List RV) (o : Int), (recL o L).length = L.length
  | [], _ => rfl
  | (_, _, _) :: r, o => by simp [recL, recL_len r]
theorem segB_len : ∀ (L : List RV) (o : Int), okL o L → 10 * L.length ≤ (segB o L).length
  | [], _, _ => by simp [segB]
  | (n, s, v) :: r, o, h => by
    have h1 := segB_len r (o + 1) h.2
    have h2 := rec_len h.1
    simp only [segB, List.length_append, List.length_cons]
    omega
theorem segB_app : ∀ (L M : List RV) (o : Int), segB o (L ++ M) = segB o L ++ segB (o + L.length) M
  | [], M, o => by simp [segB]
  | (n, s, v) :: r, M, o => by
    simp only [segB, List.cons_append, List.append_assoc, segB_app r M (o + 1), List.length_cons]
    rw [show o + 1 + (r.length : Int) = o + ((r.length + 1 : Nat) : Int) from by omega]
theorem okL_app : ∀ (L M : List RV) (o : Int), okL o (L ++ M) ↔ okL o L ∧ okL (o + L.length) M
  | [], M, o => by simp [okL]
  | (n, s, v) :: r, M, o => by
    simp only [okL, List.cons_append, okL_app r M (o + 1), List.length_cons]
    rw [show o + 1 + (r.length : Int) = o + ((r.length + 1 : Nat) : Int) from by omega, and_assoc]
theorem okL_at : ∀ (L : List RV) (o : Int) (i : Nat) (h : i < L.length), okL o L → chk (o + i) (L[i]).1 (L[i]).2.1 (L[i]).2.2 = 0
  | (n, s, v) :: r, o, 0, _, h => by simpa using h.1
  | (n, s, v) :: r, o, i + 1, h, hk => by
    have := okL_at r (o + 1) i (by simpa using h) hk.2
    rw [show o + ((i + 1 : Nat) : Int) = o + 1 + (i : Int) from by omega]
    simpa using this


/-! ### which segments are valid -/
def ckS (b : List UInt8) (nx : Int) : Nat → Int → Int → Int
  | 0, _, _ => 0
  | d + 1, n, p => if p < (b.length : Int) then (if (rDec b p).2.2.2.2.2 = 0 then (if (rDec b p).1 = n then ckS b nx d (n + 1) (rDec b p).2.2.2.2.1 else 22) else (rDec b p).2.2.2.2.2) else if nx = n then 0 else 1
theorem rDec_all {b : List UInt8} {p : Int} (h : (rDec b p).2.2.2.2.2 = 0) : rDec b p = ((rDec b p).1, (rDec b p).2.1, (rDec b p).2.2.1, (rDec b p).2.2.2.1, (rDec b p).2.2.2.2.1, 0) :=
  Prod.ext rfl (Prod.ext rfl (Prod.ext rfl (Prod.ext rfl (Prod.ext rfl h))))
theorem rDec_next {b : List UInt8} {p : Int} (hb : Byt b) (h : (rDec b p).2.2.2.2.2 = 0) : 0 ≤ p ∧ p + 10 ≤ (rDec b p).2.2.2.2.1 ∧ (rDec b p).2.2.2.2.1 ≤ (b.length : Int) ∧ 0 ≤ (rDec b p).1 ∧ (rDec b p).1 ≤ 1099511627776 := by
  obtain ⟨g1, g2, g3, g4, g5⟩ := rDec_ok hb (rDec_all h)
  have := rec_len g3
  obtain ⟨h0, h1, _⟩ := chk_zero.1 g3
  exact ⟨g1, by omega, g2, h0, h1⟩
def sChk (base nx : Int) (b : List UInt8) : Int := if base < 0 then 1 else if base > 1099511627776 then 1 else if (b.length : Int) > 65536 then 5 else ckS b nx (b.length + 1) base 0
theorem ckS_zero (b : List UInt8) (hb : Byt b) (nx : Int) : ∀ (d : Nat) (n p : Int), 0 ≤ p → p ≤ (b.length : Int) → (b.length : Int) - p < d → ckS b nx d n p = 0 → ∃ L, okL n L ∧ b.drop p.toNat = segB n L ∧ nx = n + (L.length : Int) := by
  intro d
  induction d with
  | zero => intro n p h0 hl h1; omega
  | succ d ih =>
    intro n p h0 hl h1 h
    unfold ckS at h
    by_cases hp : p < (b.length : Int)
    · rw [if_pos hp] at h
      by_cases he : (rDec b p).2.2.2.2.2 = 0
      · rw [if_pos he] at h
        by_cases hn : (rDec b p).1 = n
        · rw [if_pos hn] at h
          have hd := rDec_all he
          obtain ⟨k1, k2, k3, _⟩ := rDec_next hb he
          rw [hn] at hd
          generalize (rDec b p).2.1 = kd at *
          generalize (rDec b p).2.2.1 = s at *
          generalize (rDec b p).2.2.2.1 = v at *
          generalize (rDec b p).2.2.2.2.1 = q at *
          obtain ⟨g1, g2, g3, g4, g5⟩ := rDec_ok hb hd
          obtain ⟨L, i1, i2, i3⟩ := ih (n + 1) q (by omega) (by omega) (by omega) h
          refine ⟨(kd, s, v) :: L, ⟨g3, i1⟩, ?_, by simp only [List.length_cons]; omega⟩
          show b.drop p.toNat = rec_ n kd s v ++ segB (n + 1) L
          rw [← i2, ← List.take_append_drop (rec_ n kd s v).length (b.drop p.toNat), g5, List.drop_drop]
          congr 2
          omega
        · rw [if_neg hn] at h; exact absurd h (by decide)
      · rw [if_neg he] at h; exact absurd h he
    · rw [if_neg hp] at h
      by_cases hn : nx = n
      · exact ⟨[], trivial, by rw [List.drop_of_length_le (by omega)]; rfl, by simpa using hn⟩
      · rw [if_neg hn] at h; exact absurd h (by decide)
/-- A valid segment is the bytes of records. -/
theorem sChk_zero {base nx : Int} {b : List UInt8} (hb : Byt b) (h : sChk base nx b = 0) : 0 ≤ base ∧ base ≤ 1099511627776 ∧ b.length ≤ 65536 ∧ ∃ L, okL base L ∧ b = segB base L ∧ nx = base + (L.length : Int) := by
  unfold sChk at h
  by_cases h0 : base < 0
  · rw [if_pos h0] at h; exact absurd h (by decide)
  rw [if_neg h0] at h
  by_cases h1 : base > 1099511627776
  · rw [if_pos h1] at h; exact absurd h (by decide)
  rw [if_neg h1] at h
  by_cases h2 : (b.length : Int) > 65536
  · rw [if_pos h2] at h; exact absurd h (by decide)
  rw [if_neg h2] at h
  obtain ⟨L, a1, a2, a3⟩ := ckS_zero b hb nx _ _ _ (by omega) (by omega) (by omega) h
  exact ⟨by omega, by omega, by omega, L, a1, by simpa using a2, a3⟩
theorem rDec_seg (pre r : List UInt8) {o n : Int} {s v : List UInt8} {L : List RV} (h : okL o ((n, s, v) :: L)) : rDec (pre ++ segB o ((n, s, v) :: L) ++ r) (pre.length : Int) = (o, n, s, v, (pre.length : Int) + ((rec_ o n s v).length : Int), 0) := by
  have := rDec_at pre (segB (o + 1) L ++ r) h.1
  rw [← this]; congr 1; simp [segB]
theorem ckS_of (b : List UInt8) : ∀ (L : List RV) (d : Nat) (n : Int) (pre : List UInt8), okL n L → b = pre ++ segB n L → (b.length : Int) - (pre.length : Int) < d → ckS b (n + (L.length : Int)) d n (pre.length : Int) = 0
  | [], d, n, pre, _, he, hd => by
    cases d with
    | zero => exact rfl
    | succ d =>
      unfold ckS
      rw [if_neg (by rw [he]; simp [segB]), if_pos (by simp)]
  | (kd, s, v) :: L, d, n, pre, hk, he, hd => by
    cases d with
    | zero => exact rfl
    | succ d =>
      have hr := rec_len hk.1
      have hl : b.length = pre.length + ((rec_ n kd s v).length + (segB (n + 1) L).length) := by rw [he]; simp [segB]
      have hdec := rDec_seg pre [] hk
      rw [List.append_nil, ← he] at hdec
      unfold ckS
      rw [hdec]
      dsimp only
      rw [if_pos (by omega), if_pos rfl, if_pos rfl]
      have := ckS_of b L d (n + 1) (pre ++ rec_ n kd s v) hk.2 (by rw [he]; simp [segB]) (by simp only [List.length_append]; omega)
      simp only [List.length_append, Int.natCast_add] at this
      rw [← this]
      simp only [List.length_cons]
      congr 1
      omega
theorem sChk_of {base : Int} {L : List RV} (h0 : 0 ≤ base) (h1 : base ≤ 1099511627776) (hk : okL base L) (hl : (segB base L).length ≤ 65536) : sChk base (base + (L.length : Int)) (segB base L) = 0 := by
  unfold sChk
  rw [if_neg (by omega), if_neg (by omega), if_neg (by omega)]
  exact ckS_of (segB base L) L _ base [] hk rfl (by simp; omega)

def sApp (base nx : Int) (b : List UInt8) (n : Int) (s v : List UInt8) : Int × Int × List UInt8 × Int × Int :=
  if chk nx n s v = 0 then (if (b.length : Int) + ((rec_ nx n s v).length : Int) > 65536 then (0, 0, [], 0, 6) else (base, nx + 1, b ++ rec_ nx n s v, nx, 0)) else (0, 0, [], 0, chk nx n s v)

theorem seg_head {b pre : List UInt8} {o n : Int} {s v : List UInt8} {L : List RV} (hk : okL o ((n, s, v) :: L)) (he : b = pre ++ segB o ((n, s, v) :: L)) :
    (pre.length : Int) < (b.length : Int) ∧ rDec b (pre.length : Int) = (o, n, s, v, ((pre ++ rec_ o n s v).length : Int), 0) ∧ b = (pre ++ rec_ o n s v) ++ segB (o + 1) L := by
  have hr := rec_len hk.1
  have hl : b.length = pre.length + ((rec_ o n s v).length + (segB (o + 1) L).length) := by rw [he]; simp [segB]
  have hdec := rDec_seg pre [] hk
  rw [List.append_nil, ← he] at hdec
  refine ⟨by omega, ?_, by rw [he]; simp [segB]⟩
  rw [hdec]; simp
theorem seg_end {b pre : List UInt8} {o : Int} (he : b = pre ++ segB o []) : ¬ (pre.length : Int) < (b.length : Int) := by rw [he]; simp [segB]

/-! ### the part below an offset -/
def cutAt (L : List RV) (n f : Int) : Nat := min L.length (f - n).toNat
theorem recL_at : ∀ (L : List RV) (o : Int) (i : Nat) (h : i < L.length), (recL o L)[i]'(by rw [recL_len]; exact h) = ((o + i, (L[i]).1, (L[i]).2.1, (L[i]).2.2) : Rec)
  | (n, s, v) :: r, o, 0, _ => by simp [recL]
  | (n, s, v) :: r, o, i + 1, h => by
    have := recL_at r (o + 1) i (by simpa using h)
    simp only [recL, List.getElem_cons_succ]
    rw [this]
    simp only [Prod.mk.injEq, true_and, and_true]
    omega
/-! ### what bytes begin with -/
def rcv (b : List UInt8) : Nat → Int → Int → Int × Int
  | 0, n, p => (n, p)
  | d + 1, n, p => if p < (b.length : Int) then (if (rDec b p).2.2.2.2.2 = 0 then (if (rDec b p).1 = n then (if (rDec b p).2.2.2.2.1 > 65536 then (n, p) else rcv b d (n + 1) (rDec b p).2.2.2.2.1) else (n, p)) else (n, p)) else (n, p)
theorem rcv_in (b : List UInt8) (hb : Byt b) : ∀ (d : Nat) (n p : Int), 0 ≤ p → p ≤ (b.length : Int) → 0 ≤ (rcv b d n p).2 ∧ (rcv b d n p).2 ≤ (b.length : Int) := by
  intro d
  induction d with
  | zero => intro n p h0 h1; exact ⟨h0, h1⟩
  | succ d ih =>
    intro n p h0 h1
    unfold rcv
    split
    · split
      · rename_i he
        obtain ⟨_, g2, g3, _⟩ := rDec_next hb he
        split
        · split
          · exact ⟨h0, h1⟩
          · exact ih _ _ (by omega) g3
        · exact ⟨h0, h1⟩
      · exact ⟨h0, h1⟩
    · exact ⟨h0, h1⟩
theorem rcv_off (b : List UInt8) (hb : Byt b) (d : Nat) {n : Int} (p : Int) (h : n < 0 ∨ n > 1099511627776) : rcv b d n p = (n, p) := by
  cases d with
  | zero => rfl
  | succ d =>
    unfold rcv
    by_cases hp : p < (b.length : Int)
    · rw [if_pos hp]
      by_cases he : (rDec b p).2.2.2.2.2 = 0
      · obtain ⟨_, g2, g3, g4, g5⟩ := rDec_next hb he
        rw [if_pos he, if_neg (by omega)]
      · rw [if_neg he]
    · rw [if_neg hp]
end Go.Proofs.Ytkklehfcadkikaa.EVT
/- What the printed functions of package pack, and of its reference, compute. -/
set_option linter.unusedVariables false
set_option linter.unusedSimpArgs false
namespace Go.Proofs.Ytkklehfcadkikaa.EVT
open Go Go.EV

theorem ct {α : Type} {b : Bool} {x y : α} (h : b = true) : cond b x y = x := by rw [h]; rfl
theorem cf {α : Type} {b : Bool} {x y : α} (h : b = false) : cond b x y = y := by rw [h]; rfl
theorem and_fold (k : IntKind) (x y : Int) : k.wrap (((BitVec.ofInt k.bits x &&& BitVec.ofInt k.bits y).toNat : Nat) : Int) = Go.bits .and k x y := rfl
theorem or_fold (k : IntKind) (x y : Int) : k.wrap (((BitVec.ofInt k.bits x ||| BitVec.ofInt k.bits y).toNat : Nat) : Int) = Go.bits .or k x y := rfl
theorem xor_fold (k : IntKind) (x y : Int) : k.wrap (((BitVec.ofInt k.bits x ^^^ BitVec.ofInt k.bits y).toNat : Nat) : Int) = Go.bits .xor k x y := rfl
theorem loopN_s {σ O : Type} (st : (σ → Option O) → σ → Option O) (n : Nat) (v : σ) : loopN st (n + 1) v = st (loopN st n) v := rfl
theorem p1 : (2 : Int) ^ min (Int.toNat 1) IntKind.u64.bits = 2 := by decide
theorem p63 : (2 : Int) ^ min (Int.toNat 63) IntKind.i64.bits = 9223372036854775808 := by decide
theorem p7 : (2 : Int) ^ min (Int.toNat 7) IntKind.u64.bits = 128 := by decide
theorem fd {a b : Int} (hb : 0 ≤ b) : a.fdiv b = a / b := Int.fdiv_eq_ediv_of_nonneg a hb
theorem u8w {n : Int} (h0 : 0 ≤ n) (h1 : n < 256) : IntKind.u8.wrap n = n := by simp [IntKind.wrap, IntKind.bits, IntKind.signed]; omega
theorem wrap_u8 (n : Int) : IntKind.u8.wrap n = n % 256 := by simp [IntKind.wrap, IntKind.bits, IntKind.signed]

theorem pack_code (n : Int) (h0 : -9223372036854775808 ≤ n) (h1 : n ≤ 9223372036854775807) : g59 n = some ((code n : Nat) : Int) := by
  unfold g59
  rw [xor_fold, p1, p63, fd (by omega), wrap_u64, wrap_u64, wrap_u64]
  by_cases h : 0 ≤ n
  · have e1 : n / 9223372036854775808 = 0 := by omega
    have e2 : (0 : Int) % 18446744073709551616 = 0 := rfl
    rw [e1, e2, u64_xor0 _ (by omega) (by omega)]
    congr 1; unfold code; rw [if_pos h]; omega
  · have e1 : n / 9223372036854775808 = -1 := by omega
    have e2 : (-1 : Int) % 18446744073709551616 = 18446744073709551615 := rfl
    rw [e1, e2, u64_xor1 _ (by omega) (by omega)]
    congr 1; unfold code; rw [if_neg h]; omega
theorem pack_number (c : Nat) (h : c < 2 ^ 64) : g56 (c : Int) = some (num c) := by
  unfold g56
  rw [and_fold, p1, fd (by omega), u64_and1 _ (by omega) (by omega)]
  by_cases h2 : c % 2 = 0
  · rw [cf (by (rw [Bool.eq_false_iff]; simp only [ne_eq, Bool.and_eq_true, Bool.or_eq_true, decide_eq_true_eq, beq_iff_eq, bne_iff_ne, Bool.not_eq_true', decide_eq_false_iff_not, and_true, true_and]; omega)), i64w (by omega) (by omega)]
    congr 1; unfold num; rw [if_pos h2]; omega
  · rw [ct (by (simp only [ne_eq, Bool.and_eq_true, Bool.or_eq_true, decide_eq_true_eq, beq_iff_eq, bne_iff_ne, Bool.not_eq_true', decide_eq_false_iff_not, and_true, true_and]; omega)), i64w (n := (c : Int) / 2) (by omega) (by omega), i64w (n := 0 - ((c : Int) / 2)) (by omega) (by omega), i64w (by omega) (by omega)]
    congr 1; unfold num; rw [if_neg h2]; omega
/-! ### putting numbers -/
theorem add_step8 {c : Nat} (h : 128 ≤ c) (hc : c < 2 ^ 64) : Go.bits .or .u8 (IntKind.u8.wrap (Go.bits .and .u64 (c : Int) 127)) 128 = ((c % 128 + 128 : Nat) : Int) := by
  rw [wrap_u8, u64_and127 _ (by omega) (by omega), u8_or_128 _ (by omega) (by omega)]; omega
theorem add_loop (c : Nat) : c < 2 ^ 64 → ∀ (l : List UInt8) (n : Nat), l.length + (enc c).length ≤ 2147483647 → (enc c).length ≤ n →
    ∃ x r, loopN st53_0 n ((c : Int), l) = some (.inl (x, r)) ∧ 0 ≤ x ∧ x ≤ 127 ∧ r.length + 1 ≤ 2147483647 ∧ r ++ [UInt8.ofNat x.toNat] = l ++ enc c := by
  induction c using Nat.strongRecOn with
  | _ c ih =>
    intro hc l n hl hn
    have hp := enc_pos c
    cases n with
    | zero => omega
    | succ n =>
      by_cases h : c < 128
      · rw [enc_small h] at hl ⊢
        simp at hl
        refine ⟨c, l, ?_, by omega, by omega, by omega, by simp⟩
        rw [loopN_s]; generalize loopN st53_0 n = L at *; dsimp only [st53_0]
        rw [cf (by (rw [Bool.eq_false_iff]; simp only [ne_eq, Bool.and_eq_true, Bool.or_eq_true, decide_eq_true_eq, beq_iff_eq, bne_iff_ne, Bool.not_eq_true', decide_eq_false_iff_not, and_true, true_and]; omega))]
      · rw [enc_big h] at hl hn ⊢
        simp at hl hn
        obtain ⟨x, r, h1, h2, h3, h4, h5⟩ := ih (c / 128) (by omega) (by omega) (l ++ [UInt8.ofNat (c % 128 + 128)]) n (by simp; omega) hn
        refine ⟨x, r, ?_, h2, h3, h4, by rw [h5]; simp⟩
        rw [loopN_s]; generalize loopN st53_0 n = L at *; dsimp only [st53_0]
        rw [and_fold, or_fold, add_step8 (by omega) hc, p7, fd (by omega), show (c : Int) / 128 = ((c / 128 : Nat) : Int) from by omega, Int.toNat_natCast, ct (by (simp only [ne_eq, Bool.and_eq_true, Bool.or_eq_true, decide_eq_true_eq, beq_iff_eq, bne_iff_ne, Bool.not_eq_true', decide_eq_false_iff_not, and_true, true_and]; omega)), ct (by (simp only [ne_eq, Bool.and_eq_true, Bool.or_eq_true, decide_eq_true_eq, beq_iff_eq, bne_iff_ne, Bool.not_eq_true', decide_eq_false_iff_not, and_true, true_and]; omega)), ct (by (simp only [ne_eq, Bool.and_eq_true, Bool.or_eq_true, decide_eq_true_eq, beq_iff_eq, bne_iff_ne, Bool.not_eq_true', decide_eq_false_iff_not, and_true, true_and]; omega)), h1]
theorem fuel_gt {n : Nat} (h : n ≤ 9223372036854775807) : n ≤ fuel := by rw [fuel_eq]; omega
theorem add_eq (l : List UInt8) (n : Int) (h0 : -9223372036854775808 ≤ n) (h1 : n ≤ 9223372036854775807) (hl : l.length ≤ 2147483637) : g53 l n = some (l ++ enc (code n)) := by
  have h10 := enc_len10 (code_lt h0 h1)
  obtain ⟨x, r, k1, k2, k3, k4, k5⟩ := add_loop (code n) (code_lt h0 h1) l fuel (by omega) (fuel_gt (by omega))
  unfold g53 h53_0
  rw [pack_code n h0 h1]
  simp only [Option.bind_some]
  rw [k1]
  simp only [Option.bind_some]
  rw [u8w (by omega) (by omega), ct (by (simp only [ne_eq, Bool.and_eq_true, Bool.or_eq_true, decide_eq_true_eq, beq_iff_eq, bne_iff_ne, Bool.not_eq_true', decide_eq_false_iff_not, and_true, true_and]; omega)), ct (by (simp only [ne_eq, Bool.and_eq_true, Bool.or_eq_true, decide_eq_true_eq, beq_iff_eq, bne_iff_ne, Bool.not_eq_true', decide_eq_false_iff_not, and_true, true_and]; omega)), k5]
theorem take_rep (l : List UInt8) (x : UInt8) : List.take 0 (List.replicate l.length x) ++ (List.take (List.replicate l.length x).length l ++ List.drop (0 + (List.take (List.replicate l.length x).length l).length) (List.replicate l.length x)) = l := by
  simp
theorem owned_eq (l : List UInt8) (n : Int) (h0 : 0 ≤ n) (h1 : (l.length : Int) + n ≤ 2147483647) : g54 l n = some l := by
  unfold g54
  rw [i64w (by omega) (by omega), ct (by (simp only [ne_eq, Bool.and_eq_true, Bool.or_eq_true, decide_eq_true_eq, beq_iff_eq, bne_iff_ne, Bool.not_eq_true', decide_eq_false_iff_not, and_true, true_and]; omega)), ct (by (simp only [ne_eq, Bool.and_eq_true, Bool.or_eq_true, decide_eq_true_eq, beq_iff_eq, bne_iff_ne, Bool.not_eq_true', decide_eq_false_iff_not, and_true, true_and]; omega)), Int.toNat_natCast, take_rep]
theorem PutNum_eq (l : List UInt8) (n : Int) (h0 : -9223372036854775808 ≤ n) (h1 : n ≤ 9223372036854775807) (hl : l.length ≤ 2147483637) : g21 l n = some (l ++ enc (code n)) := by
  unfold g21
  rw [owned_eq l 10 (by omega) (by omega)]
  simp only [Option.bind_some]
  rw [add_eq l n h0 h1 hl]
  rfl
theorem PutText_eq (l s : List UInt8) (hl : l.length + s.length ≤ 2147483637) : g26 l s = some (l ++ cat s) := by
  unfold g26
  rw [i64w (by omega) (by omega), owned_eq l _ (by omega) (by omega)]
  simp only [Option.bind_some]
  rw [add_eq l _ (by omega) (by omega) (by omega)]
  simp only [Option.bind_some]
  have h10 := enc_len10 (code_lt (n := (s.length : Int)) (by omega) (by omega))
  rw [ct (by simp only [decide_eq_true_eq, List.length_append]; omega)]
  simp [cat]
end Go.Proofs.Ytkklehfcadkikaa.EVT
/- What the printed readers of numbers and texts compute. -/
set_option linter.unusedVariables false
set_option linter.unusedSimpArgs false
namespace Go.Proofs.Ytkklehfcadkikaa.EVT
open Go Go.EV

theorem shl_fold (k : IntKind) (x y : Int) : k.wrap (x * 2 ^ min y.toNat k.bits) = shl k x y := rfl
theorem drop_at8 {b : List UInt8} {q : Nat} (h : q < b.length) : b.drop q = b.getD q 0 :: b.drop (q + 1) := by
  rw [List.drop_eq_getElem_cons h, List.getD_eq_getElem?_getD, List.getElem?_eq_getElem h]; rfl
theorem num_loop (b : List UInt8) (hlen : b.length ≤ 4611686018427387904) (p : Nat) : ∀ (d i c n : Nat), i + d = 10 → p + i ≤ b.length → c < 128 ^ i → i ≤ 9 → d ≤ n →
    loopN st23_0 n ((b, (p : Int), (c : Int), (i : Int)), ()) = some (fin p (dec (b.drop (p + i)) i c)) := by
  intro d
  induction d with
  | zero => intro i c n h _ _ h9; omega
  | succ d ih =>
    intro i c n hd hp hc hi hn
    cases n with
    | zero => omega
    | succ n =>
      have ih' := fun i c h1 h2 h3 h4 => ih i c n h1 h2 h3 h4 (by omega)
      rw [loopN_s]; generalize loopN st23_0 n = L at ih' ⊢; dsimp only [st23_0]
      have hw : IntKind.i64.wrap ((p : Int) + (i : Int)) = ((p + i : Nat) : Int) := by rw [i64w (by omega) (by omega)]; omega
      rw [hw, Int.toNat_natCast]
      by_cases he : p + i = b.length
      · rw [ct (by (simp only [ne_eq, Bool.and_eq_true, Bool.or_eq_true, decide_eq_true_eq, beq_iff_eq, bne_iff_ne, Bool.not_eq_true', decide_eq_false_iff_not, and_true, true_and]; omega)), he, List.drop_length]; rfl
      · have hlt : p + i < b.length := by omega
        rw [cf (by (rw [Bool.eq_false_iff]; simp only [ne_eq, Bool.and_eq_true, Bool.or_eq_true, decide_eq_true_eq, beq_iff_eq, bne_iff_ne, Bool.not_eq_true', decide_eq_false_iff_not, and_true, true_and]; omega)), ct (by (simp only [ne_eq, Bool.and_eq_true, Bool.or_eq_true, decide_eq_true_eq, beq_iff_eq, bne_iff_ne, Bool.not_eq_true', decide_eq_false_iff_not, and_true, true_and]; omega)), drop_at8 hlt]
        generalize b.getD (p + i) 0 = x
        have hx := u8lt x
        rw [and_fold, shl_fold, or_fold]
        by_cases hs : (i = 9 ∧ 1 < x.toNat) ∨ (0 < i ∧ x.toNat = 0)
        · rw [dec_syn hs]
          by_cases h9 : i = 9
          · rw [ct (by (simp only [ne_eq, Bool.and_eq_true, Bool.or_eq_true, decide_eq_true_eq, beq_iff_eq, bne_iff_ne, Bool.not_eq_true', decide_eq_false_iff_not, and_true, true_and]; omega))]
            by_cases h1 : 1 < x.toNat
            · rw [ct (by (simp only [ne_eq, Bool.and_eq_true, Bool.or_eq_true, decide_eq_true_eq, beq_iff_eq, bne_iff_ne, Bool.not_eq_true', decide_eq_false_iff_not, and_true, true_and]; omega))]; rfl
            · rw [cf (by (rw [Bool.eq_false_iff]; simp only [ne_eq, Bool.and_eq_true, Bool.or_eq_true, decide_eq_true_eq, beq_iff_eq, bne_iff_ne, Bool.not_eq_true', decide_eq_false_iff_not, and_true, true_and]; omega)), ct (by (simp only [ne_eq, Bool.and_eq_true, Bool.or_eq_true, decide_eq_true_eq, beq_iff_eq, bne_iff_ne, Bool.not_eq_true', decide_eq_false_iff_not, and_true, true_and]; omega)), ct (by (simp only [ne_eq, Bool.and_eq_true, Bool.or_eq_true, decide_eq_true_eq, beq_iff_eq, bne_iff_ne, Bool.not_eq_true', decide_eq_false_iff_not, and_true, true_and]; omega))]; rfl
          · rw [cf (by (rw [Bool.eq_false_iff]; simp only [ne_eq, Bool.and_eq_true, Bool.or_eq_true, decide_eq_true_eq, beq_iff_eq, bne_iff_ne, Bool.not_eq_true', decide_eq_false_iff_not, and_true, true_and]; omega)), ct (by (simp only [ne_eq, Bool.and_eq_true, Bool.or_eq_true, decide_eq_true_eq, beq_iff_eq, bne_iff_ne, Bool.not_eq_true', decide_eq_false_iff_not, and_true, true_and]; omega)), ct (by (simp only [ne_eq, Bool.and_eq_true, Bool.or_eq_true, decide_eq_true_eq, beq_iff_eq, bne_iff_ne, Bool.not_eq_true', decide_eq_false_iff_not, and_true, true_and]; omega))]; rfl
        · obtain ⟨hg, hglt⟩ := group (c := c) hi hc hx (fun h => by omega)
          rw [hg, pack_number _ hglt]
          simp only [Option.bind_some]
          have e7 : IntKind.i64.wrap (7 * (i : Int)) = 7 * (i : Int) := i64w (by omega) (by omega)
          have e8 : IntKind.i64.wrap (((p + i : Nat) : Int) + 1) = (p : Int) + ((i + 1 : Nat) : Int) := by rw [i64w (by omega) (by omega)]; omega
          have e9 : IntKind.i64.wrap ((i : Int) + 1) = ((i + 1 : Nat) : Int) := by rw [i64w (by omega) (by omega)]; omega
          rw [e7, e8, e9]
          by_cases h128 : x.toNat < 128
          · rw [dec_ok hs h128]
            have e1 : x.toNat % 128 = x.toNat := by omega
            rw [e1]
            by_cases h9 : i = 9
            · rw [ct (by (simp only [ne_eq, Bool.and_eq_true, Bool.or_eq_true, decide_eq_true_eq, beq_iff_eq, bne_iff_ne, Bool.not_eq_true', decide_eq_false_iff_not, and_true, true_and]; omega)), cf (by (rw [Bool.eq_false_iff]; simp only [ne_eq, Bool.and_eq_true, Bool.or_eq_true, decide_eq_true_eq, beq_iff_eq, bne_iff_ne, Bool.not_eq_true', decide_eq_false_iff_not, and_true, true_and]; omega)), ct (by (simp only [ne_eq, Bool.and_eq_true, Bool.or_eq_true, decide_eq_true_eq, beq_iff_eq, bne_iff_ne, Bool.not_eq_true', decide_eq_false_iff_not, and_true, true_and]; omega)), cf (by (rw [Bool.eq_false_iff]; simp only [ne_eq, Bool.and_eq_true, Bool.or_eq_true, decide_eq_true_eq, beq_iff_eq, bne_iff_ne, Bool.not_eq_true', decide_eq_false_iff_not, and_true, true_and]; omega)), ct (by (simp only [ne_eq, Bool.and_eq_true, Bool.or_eq_true, decide_eq_true_eq, beq_iff_eq, bne_iff_ne, Bool.not_eq_true', decide_eq_false_iff_not, and_true, true_and]; omega)), ct (by (simp only [ne_eq, Bool.and_eq_true, Bool.or_eq_true, decide_eq_true_eq, beq_iff_eq, bne_iff_ne, Bool.not_eq_true', decide_eq_false_iff_not, and_true, true_and]; omega))]; rfl
            · rw [cf (by (rw [Bool.eq_false_iff]; simp only [ne_eq, Bool.and_eq_true, Bool.or_eq_true, decide_eq_true_eq, beq_iff_eq, bne_iff_ne, Bool.not_eq_true', decide_eq_false_iff_not, and_true, true_and]; omega))]
              by_cases h0 : i = 0
              · rw [cf (by (rw [Bool.eq_false_iff]; simp only [ne_eq, Bool.and_eq_true, Bool.or_eq_true, decide_eq_true_eq, beq_iff_eq, bne_iff_ne, Bool.not_eq_true', decide_eq_false_iff_not, and_true, true_and]; omega)), ct (by (simp only [ne_eq, Bool.and_eq_true, Bool.or_eq_true, decide_eq_true_eq, beq_iff_eq, bne_iff_ne, Bool.not_eq_true', decide_eq_false_iff_not, and_true, true_and]; omega)), ct (by (simp only [ne_eq, Bool.and_eq_true, Bool.or_eq_true, decide_eq_true_eq, beq_iff_eq, bne_iff_ne, Bool.not_eq_true', decide_eq_false_iff_not, and_true, true_and]; omega))]; rfl
              · rw [ct (by (simp only [ne_eq, Bool.and_eq_true, Bool.or_eq_true, decide_eq_true_eq, beq_iff_eq, bne_iff_ne, Bool.not_eq_true', decide_eq_false_iff_not, and_true, true_and]; omega)), cf (by (rw [Bool.eq_false_iff]; simp only [ne_eq, Bool.and_eq_true, Bool.or_eq_true, decide_eq_true_eq, beq_iff_eq, bne_iff_ne, Bool.not_eq_true', decide_eq_false_iff_not, and_true, true_and]; omega)), ct (by (simp only [ne_eq, Bool.and_eq_true, Bool.or_eq_true, decide_eq_true_eq, beq_iff_eq, bne_iff_ne, Bool.not_eq_true', decide_eq_false_iff_not, and_true, true_and]; omega)), ct (by (simp only [ne_eq, Bool.and_eq_true, Bool.or_eq_true, decide_eq_true_eq, beq_iff_eq, bne_iff_ne, Bool.not_eq_true', decide_eq_false_iff_not, and_true, true_and]; omega))]; rfl
          · rw [dec_more hs h128]
            have e1 : x.toNat - 128 = x.toNat % 128 := by omega
            rw [e1]
            have h9 : ¬ i = 9 := by omega
            have h2 := ih' (i + 1) (c + x.toNat % 128 * 128 ^ i) (by omega) (by omega) (next_lt hc) (by omega)
            rw [cf (by (rw [Bool.eq_false_iff]; simp only [ne_eq, Bool.and_eq_true, Bool.or_eq_true, decide_eq_true_eq, beq_iff_eq, bne_iff_ne, Bool.not_eq_true', decide_eq_false_iff_not, and_true, true_and]; omega))]
            by_cases h0 : i = 0
            · rw [cf (by (rw [Bool.eq_false_iff]; simp only [ne_eq, Bool.and_eq_true, Bool.or_eq_true, decide_eq_true_eq, beq_iff_eq, bne_iff_ne, Bool.not_eq_true', decide_eq_false_iff_not, and_true, true_and]; omega)), ct (by (simp only [ne_eq, Bool.and_eq_true, Bool.or_eq_true, decide_eq_true_eq, beq_iff_eq, bne_iff_ne, Bool.not_eq_true', decide_eq_false_iff_not, and_true, true_and]; omega)), cf (by (rw [Bool.eq_false_iff]; simp only [ne_eq, Bool.and_eq_true, Bool.or_eq_true, decide_eq_true_eq, beq_iff_eq, bne_iff_ne, Bool.not_eq_true', decide_eq_false_iff_not, and_true, true_and]; omega)), h2]; rfl
            · rw [ct (by (simp only [ne_eq, Bool.and_eq_true, Bool.or_eq_true, decide_eq_true_eq, beq_iff_eq, bne_iff_ne, Bool.not_eq_true', decide_eq_false_iff_not, and_true, true_and]; omega)), cf (by (rw [Bool.eq_false_iff]; simp only [ne_eq, Bool.and_eq_true, Bool.or_eq_true, decide_eq_true_eq, beq_iff_eq, bne_iff_ne, Bool.not_eq_true', decide_eq_false_iff_not, and_true, true_and]; omega)), ct (by (simp only [ne_eq, Bool.and_eq_true, Bool.or_eq_true, decide_eq_true_eq, beq_iff_eq, bne_iff_ne, Bool.not_eq_true', decide_eq_false_iff_not, and_true, true_and]; omega)), cf (by (rw [Bool.eq_false_iff]; simp only [ne_eq, Bool.and_eq_true, Bool.or_eq_true, decide_eq_true_eq, beq_iff_eq, bne_iff_ne, Bool.not_eq_true', decide_eq_false_iff_not, and_true, true_and]; omega)), h2]; rfl
theorem Num_eq (b : List UInt8) (hlen : b.length ≤ 4611686018427387904) (p : Int) : g23 b p = some (rNum b p) := by
  unfold g23 h23_0
  by_cases h0 : p < 0
  · rw [ct (by (simp only [ne_eq, Bool.and_eq_true, Bool.or_eq_true, decide_eq_true_eq, beq_iff_eq, bne_iff_ne, Bool.not_eq_true', decide_eq_false_iff_not, and_true, true_and]; omega)), rNum_out (.inl h0)]
  · by_cases h1 : p > (b.length : Int)
    · rw [cf (by (rw [Bool.eq_false_iff]; simp only [ne_eq, Bool.and_eq_true, Bool.or_eq_true, decide_eq_true_eq, beq_iff_eq, bne_iff_ne, Bool.not_eq_true', decide_eq_false_iff_not, and_true, true_and]; omega)), ct (by (simp only [ne_eq, Bool.and_eq_true, Bool.or_eq_true, decide_eq_true_eq, beq_iff_eq, bne_iff_ne, Bool.not_eq_true', decide_eq_false_iff_not, and_true, true_and]; omega)), rNum_out (.inr h1)]
    · rw [cf (by (rw [Bool.eq_false_iff]; simp only [ne_eq, Bool.and_eq_true, Bool.or_eq_true, decide_eq_true_eq, beq_iff_eq, bne_iff_ne, Bool.not_eq_true', decide_eq_false_iff_not, and_true, true_and]; omega)), cf (by (rw [Bool.eq_false_iff]; simp only [ne_eq, Bool.and_eq_true, Bool.or_eq_true, decide_eq_true_eq, beq_iff_eq, bne_iff_ne, Bool.not_eq_true', decide_eq_false_iff_not, and_true, true_and]; omega))]
      obtain ⟨q, rfl⟩ := Int.eq_ofNat_of_zero_le (by omega : 0 ≤ p)
      rw [rNum_in (by omega) (by omega)]
      have := num_loop b hlen q 10 0 0 fuel rfl (by omega) (by decide) (by omega) (fuel_gt (by omega))
      simp only [Int.ofNat_eq_natCast, Int.natCast_zero, Nat.add_zero] at this
      rw [this]
      simp
/-! ### texts -/
theorem rNum_div {b : List UInt8} {p : Int} (h : (rNum b p).2.2 = 0) : 0 ≤ p ∧ p < (rNum b p).2.1 ∧ (rNum b p).2.1 ≤ (b.length : Int) ∧ -9223372036854775808 ≤ (rNum b p).1 ∧ (rNum b p).1 ≤ 9223372036854775807 := rNum_split trivial h
theorem Text_eq (b : List UInt8) (hlen : b.length ≤ 4611686018427387904) (p lim : Int) : g43 b p lim = some (rText b p lim) := by
  unfold g43 rText
  rw [Num_eq b hlen p]
  simp only [Option.bind_some]
  by_cases h : (rNum b p).2.2 = 0
  · obtain ⟨g1, g2, g3, g4, g5⟩ := rNum_div h
    rw [if_pos h, cf (by (rw [Bool.eq_false_iff]; simp only [ne_eq, Bool.and_eq_true, Bool.or_eq_true, decide_eq_true_eq, beq_iff_eq, bne_iff_ne, Bool.not_eq_true', decide_eq_false_iff_not, and_true, true_and]; omega))]
    generalize (rNum b p).1 = n at *
    generalize (rNum b p).2.1 = q at *
    by_cases h1 : n < 0
    · rw [if_pos h1, ct (by (simp only [ne_eq, Bool.and_eq_true, Bool.or_eq_true, decide_eq_true_eq, beq_iff_eq, bne_iff_ne, Bool.not_eq_true', decide_eq_false_iff_not, and_true, true_and]; omega))]
    · by_cases h2 : n > lim
      · rw [if_neg h1, if_pos h2, cf (by (rw [Bool.eq_false_iff]; simp only [ne_eq, Bool.and_eq_true, Bool.or_eq_true, decide_eq_true_eq, beq_iff_eq, bne_iff_ne, Bool.not_eq_true', decide_eq_false_iff_not, and_true, true_and]; omega)), ct (by (simp only [ne_eq, Bool.and_eq_true, Bool.or_eq_true, decide_eq_true_eq, beq_iff_eq, bne_iff_ne, Bool.not_eq_true', decide_eq_false_iff_not, and_true, true_and]; omega))]
      · rw [if_neg h1, if_neg h2, cf (by (rw [Bool.eq_false_iff]; simp only [ne_eq, Bool.and_eq_true, Bool.or_eq_true, decide_eq_true_eq, beq_iff_eq, bne_iff_ne, Bool.not_eq_true', decide_eq_false_iff_not, and_true, true_and]; omega)), cf (by (rw [Bool.eq_false_iff]; simp only [ne_eq, Bool.and_eq_true, Bool.or_eq_true, decide_eq_true_eq, beq_iff_eq, bne_iff_ne, Bool.not_eq_true', decide_eq_false_iff_not, and_true, true_and]; omega)), i64w (n := (b.length : Int) - q) (by omega) (by omega)]
        by_cases h3 : n > (b.length : Int) - q
        · rw [if_pos h3, ct (by (simp only [ne_eq, Bool.and_eq_true, Bool.or_eq_true, decide_eq_true_eq, beq_iff_eq, bne_iff_ne, Bool.not_eq_true', decide_eq_false_iff_not, and_true, true_and]; omega))]
        · rw [if_neg h3, cf (by (rw [Bool.eq_false_iff]; simp only [ne_eq, Bool.and_eq_true, Bool.or_eq_true, decide_eq_true_eq, beq_iff_eq, bne_iff_ne, Bool.not_eq_true', decide_eq_false_iff_not, and_true, true_and]; omega)), i64w (n := q + n) (by omega) (by omega), ct (by (simp only [ne_eq, Bool.and_eq_true, Bool.or_eq_true, decide_eq_true_eq, beq_iff_eq, bne_iff_ne, Bool.not_eq_true', decide_eq_false_iff_not, and_true, true_and]; omega))]
          rfl
  · rw [if_neg h, ct (by (simp only [ne_eq, Bool.and_eq_true, Bool.or_eq_true, decide_eq_true_eq, beq_iff_eq, bne_iff_ne, Bool.not_eq_true', decide_eq_false_iff_not, and_true, true_and]; omega))]
end Go.Proofs.Ytkklehfcadkikaa.EVT
/- What the printed functions of packages frame and record, and of their references, compute. -/
set_option linter.unusedVariables false
set_option linter.unusedSimpArgs false
namespace Go.Proofs.Ytkklehfcadkikaa.EVT
open Go Go.EV

/-! ### sums -/
theorem wrap_u32 (n : Int) : IntKind.u32.wrap n = n % 4294967296 := by simp [IntKind.wrap, IntKind.bits, IntKind.signed]
theorem sum_loop (b : List UInt8) (hlen : b.length ≤ 4611686018427387904) : ∀ (d i s n : Nat), i + d = b.length → s < 4294967296 → d < n →
    loopN st35_0 n (((s : Int), b, (b.length : Int), (i : Int)), ()) = some (.inl (((fnv s (b.drop i) : Nat) : Int), ())) := by
  intro d
  induction d with
  | zero =>
    intro i s n hi hs hn
    cases n with
    | zero => omega
    | succ n =>
      rw [loopN_s]; generalize loopN st35_0 n = L at *; dsimp only [st35_0]
      rw [cf (by (rw [Bool.eq_false_iff]; simp only [ne_eq, Bool.and_eq_true, Bool.or_eq_true, decide_eq_true_eq, beq_iff_eq, bne_iff_ne, Bool.not_eq_true', decide_eq_false_iff_not, and_true, true_and]; omega)), List.drop_of_length_le (by omega)]; rfl
  | succ d ih =>
    intro i s n hi hs hn
    cases n with
    | zero => omega
    | succ n =>
      have h2 := ih (i + 1) (stp s (b.getD i 0).toNat) n (by omega) (stp_lt _ _) (by omega)
      rw [loopN_s]; generalize loopN st35_0 n = L at h2 ⊢; dsimp only [st35_0]
      have hx := u8lt (b.getD i 0)
      rw [ct (by (simp only [ne_eq, Bool.and_eq_true, Bool.or_eq_true, decide_eq_true_eq, beq_iff_eq, bne_iff_ne, Bool.not_eq_true', decide_eq_false_iff_not, and_true, true_and]; omega)), ct (by (simp only [ne_eq, Bool.and_eq_true, Bool.or_eq_true, decide_eq_true_eq, beq_iff_eq, bne_iff_ne, Bool.not_eq_true', decide_eq_false_iff_not, and_true, true_and]; omega)), drop_at8 (by omega), Int.toNat_natCast]
      generalize b.getD i 0 = x at *
      rw [xor_fold, wrap_u32, wrap_u32, frame_step hs hx, i64w (by omega) (by omega)]
      exact h2
theorem Sum_eq (b : List UInt8) (hlen : b.length ≤ 4611686018427387904) : g35 b = some ((sum b : Nat) : Int) := by
  unfold g35 h35_0
  have h := sum_loop b hlen b.length 0 2166136261 fuel (by omega) (by decide) (by rw [fuel_eq]; omega)
  have hs := sum_lt b
  rw [show ((2166136261 : Nat) : Int) = 2166136261 from rfl, show ((0 : Nat) : Int) = 0 from rfl] at h
  rw [h]
  show some (IntKind.i64.wrap ((sum b : Nat) : Int)) = _
  rw [i64w (by omega) (by omega)]
/-! ### frames written -/
theorem p24 : (2 : Int) ^ min (Int.toNat 24) IntKind.i64.bits = 16777216 := by decide
theorem p16 : (2 : Int) ^ min (Int.toNat 16) IntKind.i64.bits = 65536 := by decide
theorem p8 : (2 : Int) ^ min (Int.toNat 8) IntKind.i64.bits = 256 := by decide
theorem be4_int (s : Nat) : [UInt8.ofNat ((s : Int) / 16777216 % 256).toNat, UInt8.ofNat ((s : Int) / 65536 % 256).toNat, UInt8.ofNat ((s : Int) / 256 % 256).toNat, UInt8.ofNat ((s : Int) % 256).toNat] = be4 s := by
  unfold be4
  rw [show ((s : Int) / 16777216 % 256).toNat = s / 16777216 % 256 from by omega, show ((s : Int) / 65536 % 256).toNat = s / 65536 % 256 from by omega, show ((s : Int) / 256 % 256).toNat = s / 256 % 256 from by omega, show ((s : Int) % 256).toNat = s % 256 from by omega]
theorem Wrap_eq (b : List UInt8) (hlen : b.length ≤ 65536) : g37 b = some (wrapF b) := by
  unfold g37
  rw [Sum_eq b (by omega), cf (by (rw [Bool.eq_false_iff]; simp only [ne_eq, Bool.and_eq_true, Bool.or_eq_true, decide_eq_true_eq, beq_iff_eq, bne_iff_ne, Bool.not_eq_true', decide_eq_false_iff_not, and_true, true_and]; omega))]
  simp only [Option.bind_some]
  rw [PutNum_eq [] _ (by omega) (by omega) (by simp)]
  simp only [Option.bind_some, List.nil_append]
  have hs := sum_lt b
  have h10 := enc_len10 (code_lt (n := (b.length : Int)) (by omega) (by omega))
  rw [p24, p16, p8, fd (by omega), fd (by omega), fd (by omega), wrap_u8, wrap_u8, wrap_u8, wrap_u8, be4_int, ct (by (simp only [ne_eq, Bool.and_eq_true, Bool.or_eq_true, decide_eq_true_eq, beq_iff_eq, bne_iff_ne, Bool.not_eq_true', decide_eq_false_iff_not, and_true, true_and]; omega)), ct (by (simp only [ne_eq, Bool.and_eq_true, Bool.or_eq_true, decide_eq_true_eq, beq_iff_eq, bne_iff_ne, Bool.not_eq_true', decide_eq_false_iff_not, and_true, true_and]; omega)), ct (by simp [be4]; omega)]
  simp [wrapF]
/-! ### frames read -/
theorem cut_fold (b : List UInt8) (q n : Int) : List.drop q.toNat (List.take (q + n).toNat b) = cut b q n := rfl
theorem copy_rep (P : List UInt8) (m : Nat) (x : UInt8) (h : P.length = m) : List.take 0 (List.replicate m x) ++ (List.take (List.replicate m x).length P ++ List.drop (0 + (List.take (List.replicate m x).length P).length) (List.replicate m x)) = P := by
  subst h; simp
theorem hdr (a b d e : UInt8) : Go.bits .or .i64 (Go.bits .or .i64 (Go.bits .or .i64 (IntKind.i64.wrap (IntKind.i64.wrap (a.toNat : Int) * 16777216)) (IntKind.i64.wrap (IntKind.i64.wrap (b.toNat : Int) * 65536))) (IntKind.i64.wrap (IntKind.i64.wrap (d.toNat : Int) * 256))) (IntKind.i64.wrap (e.toNat : Int)) = ((a.toNat * 16777216 + b.toNat * 65536 + d.toNat * 256 + e.toNat : Nat) : Int) := by
  have ha := u8lt a; have hb := u8lt b; have hd := u8lt d; have he := u8lt e
  rw [i64w (n := (a.toNat : Int)) (by omega) (by omega), i64w (n := (b.toNat : Int)) (by omega) (by omega), i64w (n := (d.toNat : Int)) (by omega) (by omega), i64w (n := (e.toNat : Int)) (by omega) (by omega)]
  rw [i64w (n := (a.toNat : Int) * 16777216) (by omega) (by omega), i64w (n := (b.toNat : Int) * 65536) (by omega) (by omega), i64w (n := (d.toNat : Int) * 256) (by omega) (by omega)]
  rw [i64_or_join 24 ((a.toNat : Int) * 16777216) ((b.toNat : Int) * 65536) (by omega) (by omega) (by omega) (by omega) (by omega) (by omega), i64_or_join 16 ((a.toNat : Int) * 16777216 + (b.toNat : Int) * 65536) ((d.toNat : Int) * 256) (by omega) (by omega) (by omega) (by omega) (by omega) (by omega), i64_or_join 8 ((a.toNat : Int) * 16777216 + (b.toNat : Int) * 65536 + (d.toNat : Int) * 256) (e.toNat : Int) (by omega) (by omega) (by omega) (by omega) (by omega) (by omega)]
  omega
theorem Next_eq (b : List UInt8) (hlen : b.length ≤ 4611686018427387) (p : Int) : g41 b p = some (rNext b p) := by
  unfold g41 rNext
  rw [Num_eq b (by omega) p]
  simp only [Option.bind_some]
  by_cases h : (rNum b p).2.2 = 0
  · obtain ⟨g1, g2, g3, g4, g5⟩ := rNum_div h
    rw [if_pos h, cf (by (rw [Bool.eq_false_iff]; simp only [ne_eq, Bool.and_eq_true, Bool.or_eq_true, decide_eq_true_eq, beq_iff_eq, bne_iff_ne, Bool.not_eq_true', decide_eq_false_iff_not, and_true, true_and]; omega))]
    generalize (rNum b p).1 = n at *
    generalize (rNum b p).2.1 = q at *
    by_cases h1 : n < 0
    · rw [if_pos h1, ct (by (simp only [ne_eq, Bool.and_eq_true, Bool.or_eq_true, decide_eq_true_eq, beq_iff_eq, bne_iff_ne, Bool.not_eq_true', decide_eq_false_iff_not, and_true, true_and]; omega))]
    · by_cases h2 : n > 65536
      · rw [if_neg h1, if_pos h2, cf (by (rw [Bool.eq_false_iff]; simp only [ne_eq, Bool.and_eq_true, Bool.or_eq_true, decide_eq_true_eq, beq_iff_eq, bne_iff_ne, Bool.not_eq_true', decide_eq_false_iff_not, and_true, true_and]; omega)), ct (by (simp only [ne_eq, Bool.and_eq_true, Bool.or_eq_true, decide_eq_true_eq, beq_iff_eq, bne_iff_ne, Bool.not_eq_true', decide_eq_false_iff_not, and_true, true_and]; omega))]
      · rw [if_neg h1, if_neg h2, cf (by (rw [Bool.eq_false_iff]; simp only [ne_eq, Bool.and_eq_true, Bool.or_eq_true, decide_eq_true_eq, beq_iff_eq, bne_iff_ne, Bool.not_eq_true', decide_eq_false_iff_not, and_true, true_and]; omega)), cf (by (rw [Bool.eq_false_iff]; simp only [ne_eq, Bool.and_eq_true, Bool.or_eq_true, decide_eq_true_eq, beq_iff_eq, bne_iff_ne, Bool.not_eq_true', decide_eq_false_iff_not, and_true, true_and]; omega)), i64w (n := (b.length : Int) - q) (by omega) (by omega), i64w (n := 4 + n) (by omega) (by omega)]
        by_cases h3 : (b.length : Int) - q < 4 + n
        · rw [if_pos h3, ct (by (simp only [ne_eq, Bool.and_eq_true, Bool.or_eq_true, decide_eq_true_eq, beq_iff_eq, bne_iff_ne, Bool.not_eq_true', decide_eq_false_iff_not, and_true, true_and]; omega))]
        · rw [if_neg h3, cf (by (rw [Bool.eq_false_iff]; simp only [ne_eq, Bool.and_eq_true, Bool.or_eq_true, decide_eq_true_eq, beq_iff_eq, bne_iff_ne, Bool.not_eq_true', decide_eq_false_iff_not, and_true, true_and]; omega)), i64w (n := q + 4) (by omega) (by omega), i64w (n := q + 4 + n) (by omega) (by omega)]
          have hl4 : (cut b q 4).length = 4 := cut_length (by omega) (by omega) (by omega)
          have hln : (cut b (q + 4) n).length = n.toNat := cut_length (by omega) (by omega) (by omega)
          rw [cut_fold b q 4, cut_fold b (q + 4) n, hl4]
          rw [copy_rep _ _ _ hln, Sum_eq _ (by rw [hln]; omega)]
          simp only [Option.bind_some, or_fold, p24, p16, p8]
          rw [hdr, ct (by (simp only [ne_eq, Bool.and_eq_true, Bool.or_eq_true, decide_eq_true_eq, beq_iff_eq, bne_iff_ne, Bool.not_eq_true', decide_eq_false_iff_not, and_true, true_and]; omega)), ct (by (simp only [ne_eq, Bool.and_eq_true, Bool.or_eq_true, decide_eq_true_eq, beq_iff_eq, bne_iff_ne, Bool.not_eq_true', decide_eq_false_iff_not, and_true, true_and]; omega)), ct (by (simp only [ne_eq, Bool.and_eq_true, Bool.or_eq_true, decide_eq_true_eq, beq_iff_eq, bne_iff_ne, Bool.not_eq_true', decide_eq_false_iff_not, and_true, true_and]; omega)), ct (by simp), ct (by (simp only [ne_eq, Bool.and_eq_true, Bool.or_eq_true, decide_eq_true_eq, beq_iff_eq, bne_iff_ne, Bool.not_eq_true', decide_eq_false_iff_not, and_true, true_and]; omega)), ct (by (simp only [ne_eq, Bool.and_eq_true, Bool.or_eq_true, decide_eq_true_eq, beq_iff_eq, bne_iff_ne, Bool.not_eq_true', decide_eq_false_iff_not, and_true, true_and]; omega)), ct (by (simp only [ne_eq, Bool.and_eq_true, Bool.or_eq_true, decide_eq_true_eq, beq_iff_eq, bne_iff_ne, Bool.not_eq_true', decide_eq_false_iff_not, and_true, true_and]; omega)), ct (by (simp only [ne_eq, Bool.and_eq_true, Bool.or_eq_true, decide_eq_true_eq, beq_iff_eq, bne_iff_ne, Bool.not_eq_true', decide_eq_false_iff_not, and_true, true_and]; omega))]
          have hi := be4_iff hl4 (sum_lt (cut b (q + 4) n))
          by_cases h4 : cut b q 4 = be4 (sum (pay b q n))
          · rw [if_pos h4]
            have h5 := hi.2 h4
            rw [cf (by rw [Bool.eq_false_iff]; simp only [ne_eq, bne_iff_ne, Classical.not_not]; exact_mod_cast h5)]
            rfl
          · rw [if_neg h4]
            rw [ct (by simp only [bne_iff_ne, ne_eq]; intro h5; exact h4 (hi.1 (by exact_mod_cast h5)))]
  · rw [if_neg h, ct (by (simp only [ne_eq, Bool.and_eq_true, Bool.or_eq_true, decide_eq_true_eq, beq_iff_eq, bne_iff_ne, Bool.not_eq_true', decide_eq_false_iff_not, and_true, true_and]; omega))]
end Go.Proofs.Ytkklehfcadkikaa.EVT
/- What the printed functions of package record, and of its reference, compute. -/
set_option linter.unusedVariables false
set_option linter.unusedSimpArgs false
namespace Go.Proofs.Ytkklehfcadkikaa.EVT
open Go Go.EV

theorem bne_dec (n k : Int) : (n != k) = !decide (n = k) := by rw [bne]; by_cases h : n = k <;> simp [h]
theorem beq_dec (s : List UInt8) : (s == []) = decide (s = []) := by cases s <;> simp
theorem rNext_len (b : List UInt8) (p : Int) : (rNext b p).1.length ≤ 65536 := (rNext_byt trivial p).2
theorem sNum_bad {b : List UInt8} {p e : Int} (h : ¬ e = 0) : sNum b p e = (0, p, e) := by unfold sNum; rw [if_neg h]
theorem sNum_good {b : List UInt8} {p : Int} (h : (rNum b p).2.2 = 0) : sNum b p 0 = ((rNum b p).1, (rNum b p).2.1, 0) := by unfold sNum; rw [if_pos rfl, if_pos h]
theorem sNum_fail {b : List UInt8} {p : Int} (h : ¬ (rNum b p).2.2 = 0) : sNum b p 0 = (0, p, (rNum b p).2.2) := by unfold sNum; rw [if_pos rfl, if_neg h]
theorem sText_bad {b : List UInt8} {p e lim : Int} (h : ¬ e = 0) : sText b p e lim = ([], p, e) := by unfold sText; rw [if_neg h]
theorem sText_good {b : List UInt8} {p lim : Int} (h : (rText b p lim).2.2 = 0) : sText b p 0 lim = ((rText b p lim).1, (rText b p lim).2.1, 0) := by unfold sText; rw [if_pos rfl, if_pos h]
theorem sText_fail {b : List UInt8} {p lim : Int} (h : ¬ (rText b p lim).2.2 = 0) : sText b p 0 lim = ([], p, (rText b p lim).2.2) := by unfold sText; rw [if_pos rfl, if_neg h]
end Go.Proofs.Ytkklehfcadkikaa.EVT
