/- Plain facts on numbers, bits, bytes: encoding and decoding of numbers and texts; no program in sight. -/
import Derived.Test.YtkklehfcadkikaaTv13
import Derived.Laws.BitsLemmas
set_option linter.unusedVariables false
set_option linter.unusedSimpArgs false
namespace Go.Proofs.Ytkklehfcadkikaa.EVT
open Go Go.EV


/-! ### bits -/
theorem wraps_u64 (n : Int) (h₀ : 0 ≤ n) (h₁ : n < 2 ^ 64) : IntKind.u64.wrap n = n := by
  simp [IntKind.wrap, IntKind.bits, IntKind.signed]; omega
theorem wrap_u64 (n : Int) : IntKind.u64.wrap n = n % 18446744073709551616 := by simp [IntKind.wrap, IntKind.bits, IntKind.signed]
theorem wraps_u32 (n : Int) (h₀ : 0 ≤ n) (h₁ : n < 2 ^ 32) : IntKind.u32.wrap n = n := by
  simp [IntKind.wrap, IntKind.bits, IntKind.signed]; omega
theorem wraps_i64 (n : Int) (h₀ : 0 ≤ n) (h₁ : n < 2 ^ 63) : IntKind.i64.wrap n = n := by
  rw [IntKind.wrap_i64]; omega
theorem bits_xor_nat (k : IntKind) (j : Nat) (hj : j ≤ k.bits) (hk : ∀ n : Int, 0 ≤ n → n < 2 ^ j → k.wrap n = n) (a b : Nat) (ha : a < 2 ^ j) (hb : b < 2 ^ j) :
    bits .xor k a b = ((a ^^^ b : Nat) : Int) := by
  have hp : 2 ^ j ≤ 2 ^ k.bits := Nat.pow_le_pow_right (by decide) hj
  have ha' : a % 2 ^ k.bits = a := Nat.mod_eq_of_lt (Nat.lt_of_lt_of_le ha hp)
  have hb' : b % 2 ^ k.bits = b := Nat.mod_eq_of_lt (Nat.lt_of_lt_of_le hb hp)
  simp only [bits, BitVec.ofInt_natCast, BitVec.toNat_xor, BitVec.toNat_ofNat, ha', hb']
  exact hk _ (Int.natCast_nonneg _) (by exact_mod_cast Nat.xor_lt_two_pow ha hb)
theorem u64_xor0 (x : Int) (h0 : 0 ≤ x) (h1 : x < 2 ^ 64) : bits .xor .u64 x 0 = x := by
  obtain ⟨a, rfl⟩ := Int.eq_ofNat_of_zero_le h0
  have := bits_xor_nat .u64 64 (by decide) wraps_u64 a 0 (by omega) (by decide)
  simpa using this
theorem nat_xor_ones (a : Nat) (h : a < 2 ^ 64) : a ^^^ 18446744073709551615 = 18446744073709551615 - a := by
  have h2 := BitVec.toNat_xor (BitVec.ofNat 64 a) (BitVec.allOnes 64)
  rw [BitVec.xor_allOnes, BitVec.toNat_not] at h2
  simp [BitVec.toNat_ofNat, Nat.mod_eq_of_lt h] at h2
  omega
theorem u64_xor1 (x : Int) (h0 : 0 ≤ x) (h1 : x < 2 ^ 64) : bits .xor .u64 x 18446744073709551615 = 18446744073709551615 - x := by
  obtain ⟨a, rfl⟩ := Int.eq_ofNat_of_zero_le h0
  have := bits_xor_nat .u64 64 (by decide) wraps_u64 a 18446744073709551615 (by omega) (by decide)
  rw [nat_xor_ones a (by omega)] at this
  have h3 : ((18446744073709551615 : Nat) : Int) = 18446744073709551615 := rfl
  rw [h3] at this
  rw [this]; omega
theorem u64_and127 (x : Int) (h₀ : 0 ≤ x) (h₁ : x < 2 ^ 64) : bits .and .u64 x 127 = x % 128 := bits_mask .u64 64 (by decide) wraps_u64 7 (by decide) x h₀ h₁
theorem u64_and1 (x : Int) (h₀ : 0 ≤ x) (h₁ : x < 2 ^ 64) : bits .and .u64 x 1 = x % 2 := bits_mask .u64 64 (by decide) wraps_u64 1 (by decide) x h₀ h₁
theorem u8_and127 (x : Int) (h₀ : 0 ≤ x) (h₁ : x < 256) : bits .and .u8 x 127 = x % 128 := bits_mask .u8 8 (by decide) wraps_u8 7 (by decide) x h₀ h₁
theorem i64_and255 (x : Int) (h₀ : 0 ≤ x) (h₁ : x < 2 ^ 63) : bits .and .i64 x 255 = x % 256 := bits_mask .i64 63 (by decide) wraps_i64 8 (by decide) x h₀ h₁
theorem bits_or_comm (k : IntKind) (x y : Int) : bits .or k x y = bits .or k y x := by simp only [bits, BitVec.or_comm]
theorem bits_and_comm (k : IntKind) (x y : Int) : bits .and k x y = bits .and k y x := by simp only [bits, BitVec.and_comm]
theorem u8_or_128 (x : Int) (h₀ : 0 ≤ x) (h₁ : x < 128) : bits .or .u8 x 128 = x + 128 := by
  rw [bits_or_comm, bits_join .u8 8 (by decide) wraps_u8 7 128 x (by decide) (by decide) (by decide) h₀ h₁ (by omega)]; omega
theorem u64_or_join (i : Nat) (x y : Int) (hi : i ≤ 64) (hx₀ : 0 ≤ x) (hx : x < 2 ^ i) (hy0 : 0 ≤ y) (hy : y % 2 ^ i = 0) (hy₁ : y < 2 ^ 64) : bits .or .u64 x y = x + y := by
  rw [bits_or_comm, bits_join .u64 64 (by decide) wraps_u64 i y x hy0 hy hy₁ hx₀ hx (Int.lt_of_lt_of_le hx (by exact_mod_cast Nat.pow_le_pow_right (by decide) hi))]
  omega
theorem i64_or_join (i : Nat) (x y : Int) (hx0 : 0 ≤ x) (hx : x % 2 ^ i = 0) (hx1 : x < 2 ^ 63) (hy0 : 0 ≤ y) (hy : y < 2 ^ i) (hy1 : y < 2 ^ 63) : bits .or .i64 x y = x + y :=
  bits_join .i64 63 (by decide) wraps_i64 i x y hx0 hx hx1 hy0 hy hy1
theorem i64w {n : Int} (h0 : -9223372036854775808 ≤ n) (h1 : n ≤ 9223372036854775807) : IntKind.i64.wrap n = n := by rw [IntKind.wrap_i64]; omega
theorem u8n {c : Nat} (h : c < 256) : (UInt8.ofNat c).toNat = c := by rw [UInt8.toNat_ofNat']; omega
theorem u8ext {a b : UInt8} (h : a.toNat = b.toNat) : a = b := UInt8.toNat.inj h
theorem u8lt (x : UInt8) : x.toNat ≤ 255 := by have := x.toNat_lt; omega
def enc (c : Nat) : List UInt8 := if c < 128 then [UInt8.ofNat c] else UInt8.ofNat (c % 128 + 128) :: enc (c / 128)
termination_by c
decreasing_by omega
theorem enc_small {c : Nat} (h : c < 128) : enc c = [UInt8.ofNat c] := by rw [enc, if_pos h]
theorem enc_big {c : Nat} (h : ¬ c < 128) : enc c = UInt8.ofNat (c % 128 + 128) :: enc (c / 128) := by rw [enc, if_neg h]
theorem enc_pos (c : Nat) : 1 ≤ (enc c).length := by
  rw [enc]; split <;> simp
theorem enc_len (c : Nat) : ∀ j, c < 128 ^ (j + 1) → (enc c).length ≤ j + 1 := by
  induction c using Nat.strongRecOn with
  | _ c ih =>
    intro j hj
    by_cases h : c < 128
    · rw [enc_small h]; simp
    · rw [enc_big h]
      cases j with
      | zero => simp at hj; omega
      | succ j =>
        have := ih (c / 128) (by omega) j (by rw [Nat.pow_succ] at hj; omega)
        simp; omega
theorem enc_len10 {c : Nat} (h : c < 2 ^ 64) : (enc c).length ≤ 10 := enc_len c 9 (Nat.lt_of_lt_of_le h (by decide))

def code (n : Int) : Nat := if 0 ≤ n then (2 * n).toNat else (-(2 * n) - 1).toNat
def num (c : Nat) : Int := if c % 2 = 0 then ((c / 2 : Nat) : Int) else -((c / 2 : Nat) : Int) - 1
theorem num_code (n : Int) : num (code n) = n := by unfold num code; split <;> split <;> omega
theorem code_num (c : Nat) : code (num c) = c := by unfold num code; split <;> split <;> omega
theorem code_lt {n : Int} (h0 : -9223372036854775808 ≤ n) (h1 : n ≤ 9223372036854775807) : code n < 2 ^ 64 := by unfold code; split <;> omega
theorem num_range {c : Nat} (h : c < 2 ^ 64) : -9223372036854775808 ≤ num c ∧ num c ≤ 9223372036854775807 := by unfold num; split <;> omega

inductive Dec where
  | ok (c k : Nat)
  | trunc
  | syn
def dec : List UInt8 → Nat → Nat → Dec
  | [], _, _ => .trunc
  | x :: r, i, c => if (i = 9 ∧ 1 < x.toNat) ∨ (0 < i ∧ x.toNat = 0) then .syn else if x.toNat < 128 then .ok (c + x.toNat * 128 ^ i) (i + 1) else dec r (i + 1) (c + (x.toNat - 128) * 128 ^ i)
theorem pow128_9 : (128 : Nat) ^ 9 = 9223372036854775808 := by decide
theorem dec_syn {x : UInt8} {r : List UInt8} {i c : Nat} (h : (i = 9 ∧ 1 < x.toNat) ∨ (0 < i ∧ x.toNat = 0)) : dec (x :: r) i c = .syn := by rw [dec, if_pos h]
theorem dec_ok {x : UInt8} {r : List UInt8} {i c : Nat} (h : ¬ ((i = 9 ∧ 1 < x.toNat) ∨ (0 < i ∧ x.toNat = 0))) (hx : x.toNat < 128) : dec (x :: r) i c = .ok (c + x.toNat * 128 ^ i) (i + 1) := by rw [dec, if_neg h, if_pos hx]
theorem dec_more {x : UInt8} {r : List UInt8} {i c : Nat} (h : ¬ ((i = 9 ∧ 1 < x.toNat) ∨ (0 < i ∧ x.toNat = 0))) (hx : ¬ x.toNat < 128) : dec (x :: r) i c = dec r (i + 1) (c + (x.toNat - 128) * 128 ^ i) := by rw [dec, if_neg h, if_neg hx]

theorem pow128_dvd (i : Nat) : ∀ c : Nat, c * 128 ^ i < 2 ^ 64 → i = 9 → c ≤ 1 := by
  intro c h hi; subst hi; rw [pow128_9] at h; omega
theorem pow128_10 {i c : Nat} (h : c * 128 ^ i < 2 ^ 64) (hc : 0 < c) : i ≤ 9 := by
  apply Decidable.byContradiction
  intro hn
  have h1 : 128 ^ 10 ≤ 128 ^ i := Nat.pow_le_pow_right (by decide) (by omega)
  have h2 : 128 ^ i ≤ c * 128 ^ i := Nat.le_mul_of_pos_left _ hc
  have h3 : (2 : Nat) ^ 64 ≤ 128 ^ 10 := by decide
  omega
/-- What was encoded is decoded, whatever follows. -/
theorem dec_enc (r : List UInt8) (c : Nat) : ∀ i a, c * 128 ^ i < 2 ^ 64 → (i = 0 ∨ 0 < c) → dec (enc c ++ r) i a = .ok (a + c * 128 ^ i) (i + (enc c).length) := by
  induction c using Nat.strongRecOn with
  | _ c ih =>
    intro i a h hi
    have h9 := pow128_dvd i c h
    by_cases hc : c < 128
    · rw [enc_small hc]
      have hu := u8n (c := c) (by omega)
      have hn : ¬ ((i = 9 ∧ 1 < (UInt8.ofNat c).toNat) ∨ (0 < i ∧ (UInt8.ofNat c).toNat = 0)) := by rw [hu]; omega
      rw [List.singleton_append, dec_ok hn (by omega), hu]
      simp
    · rw [enc_big hc]
      have hu := u8n (c := c % 128 + 128) (by omega)
      have hn : ¬ ((i = 9 ∧ 1 < (UInt8.ofNat (c % 128 + 128)).toNat) ∨ (0 < i ∧ (UInt8.ofNat (c % 128 + 128)).toNat = 0)) := by rw [hu]; omega
      rw [List.cons_append, dec_more hn (by omega), hu]
      have hp : c / 128 * 128 ^ (i + 1) = c * 128 ^ i - c % 128 * 128 ^ i := by
        have h1 : c / 128 * 128 = c - c % 128 := by omega
        rw [Nat.pow_succ, Nat.mul_comm (128 ^ i), ← Nat.mul_assoc, h1, Nat.sub_mul]
      have hle : c % 128 * 128 ^ i ≤ c * 128 ^ i := Nat.mul_le_mul_right _ (Nat.mod_le _ _)
      rw [ih (c / 128) (by omega) (i + 1) _ (by omega) (.inr (by omega)), hp]
      have e1 : (c % 128 + 128 - 128) = c % 128 := by omega
      rw [e1]
      have e2 : a + c % 128 * 128 ^ i + (c * 128 ^ i - c % 128 * 128 ^ i) = a + c * 128 ^ i := by
        generalize c % 128 * 128 ^ i = u at *
        generalize c * 128 ^ i = v at *
        omega
      have e3 : i + 1 + (enc (c / 128)).length = i + (UInt8.ofNat (c % 128 + 128) :: enc (c / 128)).length := by rw [List.length_cons]; omega
      rw [e2, e3]
/-- What is accepted is what is written. -/
theorem dec_only (l : List UInt8) : ∀ i a c k, i ≤ 9 → dec l i a = .ok c k →
    ∃ c', c = a + c' * 128 ^ i ∧ k = i + (enc c').length ∧ (enc c').length ≤ l.length ∧ l.take (enc c').length = enc c' ∧ (i = 0 ∨ 0 < c') ∧ c' * 128 ^ i < 2 ^ 64 := by
  induction l with
  | nil => intro i a c k _ h; simp [dec] at h
  | cons x r ih =>
    intro i a c k hi h
    have hx := u8lt x
    by_cases hs : (i = 9 ∧ 1 < x.toNat) ∨ (0 < i ∧ x.toNat = 0)
    · rw [dec_syn hs] at h; cases h
    · by_cases hlt : x.toNat < 128
      · rw [dec_ok hs hlt] at h
        injection h with h1 h2
        have he : enc x.toNat = [x] := by rw [enc_small (by omega)]; congr 1; exact u8ext (u8n (by omega))
        refine ⟨x.toNat, h1.symm, by rw [he]; simp; omega, by rw [he]; simp, by rw [he]; simp, by omega, ?_⟩
        have hle : 128 ^ i ≤ 128 ^ 9 := Nat.pow_le_pow_right (by decide) hi
        by_cases h9 : i = 9
        · subst h9; rw [pow128_9]; omega
        · have hle8 : 128 ^ i ≤ 128 ^ 8 := Nat.pow_le_pow_right (by decide) (by omega)
          have h3 : x.toNat * 128 ^ i ≤ 127 * 128 ^ 8 := Nat.mul_le_mul (by omega) hle8
          have h4 : (127 : Nat) * 128 ^ 8 < 2 ^ 64 := by decide
          omega
      · rw [dec_more hs hlt] at h
        have hi9 : i ≠ 9 := by omega
        obtain ⟨c', h1, h2, h3, h4, h5, h6⟩ := ih (i + 1) _ c k (by omega) h
        have hc' : 0 < c' := by omega
        have hbig : ¬ (c' * 128 + (x.toNat - 128)) < 128 := by omega
        have he : enc (c' * 128 + (x.toNat - 128)) = x :: enc c' := by
          have hu := u8n (c := (c' * 128 + (x.toNat - 128)) % 128 + 128) (by omega)
          have e1 : UInt8.ofNat ((c' * 128 + (x.toNat - 128)) % 128 + 128) = x := u8ext (hu.trans (by omega))
          have e2 : (c' * 128 + (x.toNat - 128)) / 128 = c' := by omega
          rw [enc_big hbig, e1, e2]
        have hp : c' * 128 ^ (i + 1) = c' * 128 * 128 ^ i := by rw [Nat.pow_succ, Nat.mul_comm (128 ^ i), ← Nat.mul_assoc]
        refine ⟨c' * 128 + (x.toNat - 128), ?_, by rw [he]; simp; omega, by rw [he]; simp; omega, ?_, .inr (by omega), ?_⟩
        · rw [h1, hp, Nat.add_mul]; omega
        · rw [he]; simp [h4]
        · rw [Nat.add_mul, ← hp]
          have hd : (2 : Nat) ^ 64 = 2 ^ (64 - 7 * (i + 1)) * 128 ^ (i + 1) := by
            have : (128 : Nat) = 2 ^ 7 := by decide
            rw [this, ← Nat.pow_mul, ← Nat.pow_add]
            congr 1; omega
          have hlt2 : c' < 2 ^ (64 - 7 * (i + 1)) := by
            rw [hd] at h6
            exact Nat.lt_of_mul_lt_mul_right h6
          have h7 : (c' + 1) * 128 ^ (i + 1) ≤ 2 ^ 64 := by rw [hd]; exact Nat.mul_le_mul_right _ hlt2
          have h8 : (x.toNat - 128) * 128 ^ i < 128 ^ (i + 1) := by
            rw [Nat.pow_succ, Nat.mul_comm (128 ^ i)]
            exact Nat.mul_lt_mul_of_pos_right (by omega) (Nat.pow_pos (by decide))
          rw [Nat.add_mul] at h7
          omega
/-- What ends too early is torn. -/
theorem dec_torn (c : Nat) : ∀ i a m, c * 128 ^ i < 2 ^ 64 → (i = 0 ∨ 0 < c) → m < (enc c).length → dec ((enc c).take m) i a = .trunc := by
  induction c using Nat.strongRecOn with
  | _ c ih =>
    intro i a m h hi hm
    have h9 := pow128_dvd i c h
    cases m with
    | zero => simp [dec]
    | succ m =>
      by_cases hc : c < 128
      · rw [enc_small hc] at hm; simp at hm
      · rw [enc_big hc] at hm ⊢
        have hu := u8n (c := c % 128 + 128) (by omega)
        have hn : ¬ ((i = 9 ∧ 1 < (UInt8.ofNat (c % 128 + 128)).toNat) ∨ (0 < i ∧ (UInt8.ofNat (c % 128 + 128)).toNat = 0)) := by rw [hu]; omega
        rw [List.take_succ_cons, dec_more hn (by omega)]
        have hp : c / 128 * 128 ^ (i + 1) ≤ c * 128 ^ i := by
          rw [Nat.pow_succ, Nat.mul_comm (128 ^ i), ← Nat.mul_assoc]
          exact Nat.mul_le_mul_right _ (Nat.div_mul_le_self _ _)
        exact ih (c / 128) (by omega) (i + 1) _ m (by omega) (.inr (by omega)) (by simp at hm; omega)
/-- More bytes behind do not change an answer. -/
theorem dec_append (l r : List UInt8) : ∀ i a, dec l i a ≠ .trunc → dec (l ++ r) i a = dec l i a := by
  induction l with
  | nil => intro i a h; simp [dec] at h
  | cons x l ih =>
    intro i a h
    rw [List.cons_append]
    by_cases hs : (i = 9 ∧ 1 < x.toNat) ∨ (0 < i ∧ x.toNat = 0)
    · rw [dec_syn hs, dec_syn hs]
    · by_cases hlt : x.toNat < 128
      · rw [dec_ok hs hlt, dec_ok hs hlt]
      · rw [dec_more hs hlt] at h
        rw [dec_more hs hlt, dec_more hs hlt]
        exact ih _ _ h
abbrev Byt (_ : List UInt8) : Prop := True
def shl (k : IntKind) (x y : Int) : Int := k.wrap (x * 2 ^ min y.toNat k.bits)
theorem u64w {n : Int} (h0 : 0 ≤ n) (h1 : n < 18446744073709551616) : IntKind.u64.wrap n = n := by rw [wrap_u64]; omega
theorem tmod_nn {a b : Int} (h : 0 ≤ a) : Int.tmod a b = a % b := Int.tmod_eq_emod_of_nonneg h
theorem tdiv_nn {a b : Int} (h : 0 ≤ a) : Int.tdiv a b = a / b := Int.tdiv_eq_ediv_of_nonneg h

theorem add_step {c : Nat} (h : 128 ≤ c) (hc : c < 2 ^ 64) : Go.bits .or .u8 ((Go.bits .and .u64 (c : Int) 127) % 256) 128 = ((c % 128 + 128 : Nat) : Int) := by
  rw [u64_and127 _ (by omega) (by omega), u8_or_128 _ (by omega) (by omega)]; omega
/-! ### decoding -/
def rNum (b : List UInt8) (p : Int) : Int × Int × Int :=
  if p < 0 ∨ p > (b.length : Int) then (0, 0, 1) else
    match dec (b.drop p.toNat) 0 0 with
    | .trunc => (0, 0, 3)
    | .syn => (0, 0, 2)
    | .ok c k => (num c, p + k, 0)
def fin (p : Int) : Dec → Int × Int × Int
  | .trunc => (0, 0, 3)
  | .syn => (0, 0, 2)
  | .ok c k => (num c, p + k, 0)
theorem rNum_in {b : List UInt8} {p : Int} (h0 : 0 ≤ p) (h1 : p ≤ (b.length : Int)) : rNum b p = fin p (dec (b.drop p.toNat) 0 0) := by
  unfold rNum; rw [if_neg (by omega)]; cases dec (b.drop p.toNat) 0 0 <;> rfl
theorem rNum_out {b : List UInt8} {p : Int} (h : p < 0 ∨ p > (b.length : Int)) : rNum b p = (0, 0, 1) := by unfold rNum; rw [if_pos h]
theorem pow_le {i : Nat} (h : i ≤ 8) : (128 : Nat) ^ i ≤ 72057594037927936 := Nat.le_trans (Nat.pow_le_pow_right (by decide) h) (by decide)
theorem two_pow7 (i : Nat) : (2 : Nat) ^ (7 * i) = 128 ^ i := by rw [Nat.pow_mul]
/-- A group of seven bits, set at its place. -/
theorem group {i c x : Nat} (hi : i ≤ 9) (hc : c < 128 ^ i) (hx : x ≤ 255) (h9 : i = 9 → x ≤ 1) :
    Go.bits .or .u64 (c : Int) (shl .u64 (IntKind.u64.wrap (Go.bits .and .u8 (x : Int) 127)) (IntKind.i64.wrap (7 * (i : Int)))) = ((c + x % 128 * 128 ^ i : Nat) : Int) ∧ c + x % 128 * 128 ^ i < 2 ^ 64 := by
  have hb : x % 128 * 128 ^ i < 2 ^ 64 := by
    by_cases h : i = 9
    · subst h; have := h9 rfl; rw [pow128_9]; omega
    · have h8 := pow_le (i := i) (by omega)
      have : x % 128 * 128 ^ i ≤ 127 * 72057594037927936 := Nat.mul_le_mul (by omega) h8
      omega
  have hsum : c + x % 128 * 128 ^ i < 2 ^ 64 := by
    by_cases h : i = 9
    · subst h; have := h9 rfl; rw [pow128_9] at *; omega
    · have h8 := pow_le (i := i) (by omega)
      have : x % 128 * 128 ^ i ≤ 127 * 72057594037927936 := Nat.mul_le_mul (by omega) h8
      omega
  refine ⟨?_, hsum⟩
  have e1 : Go.bits .and .u8 (x : Int) 127 = ((x % 128 : Nat) : Int) := by rw [u8_and127 _ (by omega) (by omega)]; omega
  rw [e1, u64w (by omega) (by omega), i64w (by omega) (by omega)]
  unfold shl
  have e2 : (7 * (i : Int)).toNat = 7 * i := by omega
  have e3 : min (7 * i) IntKind.u64.bits = 7 * i := by simp [IntKind.bits]; omega
  rw [e2, e3]
  have e4 : ((x % 128 : Nat) : Int) * 2 ^ (7 * i) = ((x % 128 * 128 ^ i : Nat) : Int) := by
    rw [← two_pow7 i]; push_cast; rfl
  rw [e4, u64w (by omega) (by omega)]
  have e5 : (((x % 128 * 128 ^ i : Nat) : Int)) % 2 ^ (7 * i) = 0 := by
    have : (2 : Int) ^ (7 * i) = ((128 ^ i : Nat) : Int) := by rw [← two_pow7 i]; push_cast; rfl
    rw [this]
    have h1 : (x % 128 * 128 ^ i) % 128 ^ i = 0 := Nat.mul_mod_left _ _
    exact_mod_cast h1
  rw [u64_or_join (7 * i) (c : Int) _ (by omega) (by omega) (by have : (2 : Int) ^ (7 * i) = ((128 ^ i : Nat) : Int) := by { rw [← two_pow7 i]; push_cast; rfl }
                                                                rw [this]; exact_mod_cast hc) (by omega) e5 (by exact_mod_cast hb)]
  push_cast; rfl
theorem next_lt {i c x : Nat} (hc : c < 128 ^ i) : c + x % 128 * 128 ^ i < 128 ^ (i + 1) := by
  have h1 : (x % 128 + 1) * 128 ^ i ≤ 128 * 128 ^ i := Nat.mul_le_mul_right _ (by omega)
  rw [Nat.pow_succ, Nat.mul_comm (128 ^ i)]
  rw [Nat.add_mul] at h1
  omega
/-! ### the reference's Num -/
theorem ref_group {i c x : Nat} (hi : i ≤ 9) (hc : c < 128 ^ i) (hx : x ≤ 255) (h9 : i = 9 → x ≤ 1) :
    IntKind.u64.wrap ((c : Int) + (IntKind.u64.wrap ((IntKind.u64.wrap (Int.tmod (x : Int) 128)) * ((128 ^ i : Nat) : Int)))) = ((c + x % 128 * 128 ^ i : Nat) : Int) ∧ c + x % 128 * 128 ^ i < 2 ^ 64 := by
  have h := (group hi hc hx h9).2
  refine ⟨?_, h⟩
  rw [tmod_nn (by omega)]
  have e1 : (x : Int) % 128 = ((x % 128 : Nat) : Int) := by omega
  rw [e1, u64w (n := ((x % 128 : Nat) : Int)) (by omega) (by omega)]
  have e2 : ((x % 128 : Nat) : Int) * ((128 ^ i : Nat) : Int) = ((x % 128 * 128 ^ i : Nat) : Int) := by push_cast; rfl
  rw [e2, u64w (n := ((x % 128 * 128 ^ i : Nat) : Int)) (by omega) (by omega), u64w (by omega) (by omega)]
  push_cast; rfl
/-- What a number that was read is. -/
theorem rNum_ok {b : List UInt8} {p n q : Int} (hb : Byt b) (h : rNum b p = (n, q, 0)) :
    0 ≤ p ∧ p < q ∧ q ≤ (b.length : Int) ∧ -9223372036854775808 ≤ n ∧ n ≤ 9223372036854775807 ∧ q = p + ((enc (code n)).length : Int) ∧ (b.drop p.toNat).take (enc (code n)).length = enc (code n) := by
  unfold rNum at h
  by_cases ho : p < 0 ∨ p > (b.length : Int)
  · rw [if_pos ho] at h; simp at h
  · rw [if_neg ho] at h
    cases hd : dec (b.drop p.toNat) 0 0 with
    | trunc => rw [hd] at h; simp at h
    | syn => rw [hd] at h; simp at h
    | ok c k =>
      rw [hd] at h
      simp only [Prod.mk.injEq] at h
      obtain ⟨rfl, rfl, _⟩ := h
      obtain ⟨c', h1, h2, h3, h4, _, h6⟩ := dec_only _ 0 0 c k (by omega) hd
      simp at h1 h2 h6
      subst h1
      have hp := enc_pos c
      have hr := num_range h6
      rw [code_num]
      rw [List.length_drop] at h3
      exact ⟨by omega, by omega, by omega, hr.1, hr.2, by omega, h4⟩
theorem rNum_at (l : List UInt8) (n : Int) (r : List UInt8) (h0 : -9223372036854775808 ≤ n) (h1 : n ≤ 9223372036854775807) : rNum (l ++ (enc (code n) ++ r)) (l.length : Int) = (n, (l.length : Int) + ((enc (code n)).length : Int), 0) := by
  rw [rNum_in (by omega) (by simp; omega)]
  rw [Int.toNat_natCast, List.drop_left, dec_enc r (code n) 0 0 (by simpa using code_lt h0 h1) (.inl rfl)]
  simp [fin, num_code]
theorem rNum_torn (n : Int) (m : Nat) (h0 : -9223372036854775808 ≤ n) (h1 : n ≤ 9223372036854775807) (hm : m < (enc (code n)).length) : rNum ((enc (code n)).take m) 0 = (0, 0, 3) := by
  rw [rNum_in (by omega) (by omega)]
  have := dec_torn (code n) 0 0 m (by simpa using code_lt h0 h1) (.inl rfl) hm
  simp [this, fin]
theorem rNum_err {b : List UInt8} {p : Int} : (rNum b p).2.2 = 0 ∨ (rNum b p).2.2 = 1 ∨ (rNum b p).2.2 = 2 ∨ (rNum b p).2.2 = 3 := by
  unfold rNum
  split
  · simp
  · split <;> simp

/-! ### texts -/
def cat (s : List UInt8) : List UInt8 := enc (code (s.length : Int)) ++ s
theorem cat_len (s : List UInt8) : (cat s).length = (enc (code (s.length : Int))).length + s.length := by unfold cat; rw [List.length_append]
theorem cat_le (s : List UInt8) (hs : s.length ≤ 35184372088832) : (cat s).length ≤ 10 + s.length := by
  rw [cat_len]
  have e1 := enc_len10 (code_lt (n := (s.length : Int)) (by omega) (by omega))
  omega
/-! ### reading texts -/
def cut (b : List UInt8) (q n : Int) : List UInt8 := (b.take (q + n).toNat).drop q.toNat
def rText (b : List UInt8) (p lim : Int) : List UInt8 × Int × Int :=
  if (rNum b p).2.2 = 0 then
    if (rNum b p).1 < 0 then ([], 0, 2) else if (rNum b p).1 > lim then ([], 0, 5) else if (rNum b p).1 > (b.length : Int) - (rNum b p).2.1 then ([], 0, 3)
    else ((cut b (rNum b p).2.1 (rNum b p).1), (rNum b p).2.1 + (rNum b p).1, 0)
  else ([], 0, (rNum b p).2.2)
theorem rNum_split {b : List UInt8} {p : Int} (hb : Byt b) (h : (rNum b p).2.2 = 0) : 0 ≤ p ∧ p < (rNum b p).2.1 ∧ (rNum b p).2.1 ≤ (b.length : Int) ∧ -9223372036854775808 ≤ (rNum b p).1 ∧ (rNum b p).1 ≤ 9223372036854775807 := by
  have h2 := rNum_ok (n := (rNum b p).1) (q := (rNum b p).2.1) hb (by rw [← h])
  exact ⟨h2.1, h2.2.1, h2.2.2.1, h2.2.2.2.1, h2.2.2.2.2.1⟩
def rCount (b : List UInt8) (p lim : Int) : Int × Int × Int :=
  if (rNum b p).2.2 = 0 then if (rNum b p).1 < 0 then (0, 0, 2) else if (rNum b p).1 > lim then (0, 0, 5) else ((rNum b p).1, (rNum b p).2.1, 0) else (0, 0, (rNum b p).2.2)
theorem rText_ok {b : List UInt8} {p lim q : Int} {s : List UInt8} (hb : Byt b) (h : rText b p lim = (s, q, 0)) :
    0 ≤ p ∧ p < q ∧ q ≤ (b.length : Int) ∧ (s.length : Int) ≤ lim ∧ q = p + ((cat s).length : Int) ∧ (b.drop p.toNat).take (cat s).length = cat s := by
  unfold rText at h
  by_cases h0 : (rNum b p).2.2 = 0
  · rw [if_pos h0] at h
    by_cases h1 : (rNum b p).1 < 0
    · rw [if_pos h1] at h; simp at h
    · rw [if_neg h1] at h
      by_cases h2 : (rNum b p).1 > lim
      · rw [if_pos h2] at h; simp at h
      · rw [if_neg h2] at h
        by_cases h3 : (rNum b p).1 > (b.length : Int) - (rNum b p).2.1
        · rw [if_pos h3] at h; simp at h
        · rw [if_neg h3] at h
          simp only [Prod.mk.injEq, and_true] at h
          obtain ⟨rfl, rfl⟩ := h
          obtain ⟨g1, g2, g3, g4, g5, g6, g7⟩ := rNum_ok (n := (rNum b p).1) (q := (rNum b p).2.1) hb (by rw [← h0])
          generalize (rNum b p).1 = n at *
          generalize (rNum b p).2.1 = q at *
          have hcl : (cut b q n).length = n.toNat := by unfold cut; rw [List.length_drop, List.length_take]; omega
          have hsz : ((cut b q n)).length = n.toNat := hcl
          have hcat : cat ((cut b q n)) = enc (code n) ++ cut b q n := by
            unfold cat
            rw [hsz, show ((n.toNat : Nat) : Int) = n from by omega]
          have hlen : (cat ((cut b q n))).length = (enc (code n)).length + n.toNat := by rw [hcat, List.length_append, hcl]
          refine ⟨g1, by omega, by omega, by rw [hsz]; omega, by rw [hlen]; omega, ?_⟩
          rw [hlen, hcat, List.take_add, g7]
          congr 1
          rw [List.drop_drop]
          unfold cut
          rw [List.drop_take]
          congr 1
          · omega
          · congr 1; omega
  · rw [if_neg h0] at h
    simp only [Prod.mk.injEq] at h
    exact absurd h.2.2 h0
theorem rText_at (l : List UInt8) (s : List UInt8) (r : List UInt8) (lim : Int) (hs : (s.length : Int) ≤ lim) (hsz : s.length ≤ 35184372088832) : rText (l ++ (cat s ++ r)) (l.length : Int) lim = (s, (l.length : Int) + ((cat s).length : Int), 0) := by
  have e : l ++ (cat s ++ r) = l ++ (enc (code (s.length : Int)) ++ (s ++ r)) := by unfold cat; rw [List.append_assoc]
  unfold rText
  rw [e, rNum_at l (s.length : Int) (s ++ r) (by omega) (by omega)]
  dsimp only
  have hb := (rfl : s.length = s.length)
  rw [if_pos rfl, if_neg (by omega), if_neg (by omega), if_neg (by simp only [List.length_append]; omega)]
  have hc : cut (l ++ (enc (code (s.length : Int)) ++ (s ++ r))) ((l.length : Int) + ((enc (code (s.length : Int))).length : Int)) (s.length : Int) = s := by
    unfold cut
    rw [show ((l.length : Int) + ((enc (code (s.length : Int))).length : Int) + (s.length : Int)).toNat = l.length + ((enc (code (s.length : Int))).length + s.length) from by omega, show ((l.length : Int) + ((enc (code (s.length : Int))).length : Int)).toNat = l.length + (enc (code (s.length : Int))).length from by omega]
    rw [List.take_append, List.drop_append, List.take_of_length_le (by omega), List.drop_of_length_le (by omega), List.nil_append, Nat.add_sub_cancel_left, Nat.add_sub_cancel_left]
    rw [List.take_append, List.drop_append, List.take_of_length_le (by omega), List.drop_of_length_le (by omega), List.nil_append, Nat.add_sub_cancel_left, Nat.sub_self, List.drop_zero, ← hb, List.take_left]
  rw [hc, cat_len]
  simp only [Prod.mk.injEq, true_and, and_true]
  push_cast; omega
theorem rText_torn (s : List UInt8) (m : Nat) (lim : Int) (hs : (s.length : Int) ≤ lim) (hsz : s.length ≤ 35184372088832) (hm : m < (cat s).length) : rText ((cat s).take m) 0 lim = ([], 0, 3) := by
  rw [cat_len] at hm
  by_cases h : m < (enc (code (s.length : Int))).length
  · have e : (cat s).take m = (enc (code (s.length : Int))).take m := by unfold cat; rw [List.take_append_of_le_length (by omega)]
    unfold rText
    rw [e, rNum_torn (s.length : Int) m (by omega) (by omega) h]
    rfl
  · have e : (cat s).take m = [] ++ (enc (code (s.length : Int)) ++ s.take (m - (enc (code (s.length : Int))).length)) := by unfold cat; rw [List.take_append, List.take_of_length_le (by omega)]; rfl
    have h2 := rNum_at [] (s.length : Int) (s.take (m - (enc (code (s.length : Int))).length)) (by omega) (by omega)
    unfold rText
    rw [e]
    simp only [List.length_nil] at h2
    rw [show ((0 : Nat) : Int) = 0 from rfl] at h2
    rw [h2]
    dsimp only
    have hb := (rfl : s.length = s.length)
    rw [if_pos rfl, if_neg (by omega), if_neg (by omega), if_pos (by simp only [List.length_append, List.length_take, List.length_nil]; omega)]
end Go.Proofs.Ytkklehfcadkikaa.EVT
