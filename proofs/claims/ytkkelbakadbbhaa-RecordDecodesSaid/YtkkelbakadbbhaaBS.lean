/- Plain facts on numbers, bits and lists of bytes: no program in sight. -/
import Derived.Laws.BitsLemmas
import Derived.Lib.Strings
import Derived.Test.YtkkelbakadbbhaaWords
import Derived.Test.YtkkelbakadbbhaaYframe0
import Derived.Test.YtkkelbakadbbhaaYpack0
import Derived.Test.YtkkelbakadbbhaaYrecord0
import Derived.Test.YtkkelbakadbbhaaYref030
import Derived.Test.YtkkelbakadbbhaaYref040
import Derived.Test.YtkkelbakadbbhaaYref041
import Derived.Test.YtkkelbakadbbhaaYref311
set_option linter.unusedVariables false
set_option linter.unusedSimpArgs false
namespace Go.Proofs.Ytkkelbakadbbhaa.Sp
open Go.RowKit Go.Proofs.YtkkelbakadbbhaaW.PrintWords Go.Proofs.YtkkelbakadbbhaaW.PrintMore

/-! ### bits -/
theorem wraps_u64 (n : Int) (h₀ : 0 ≤ n) (h₁ : n < 2 ^ 64) : IntKind.u64.wrap n = n := by
  simp [IntKind.wrap, IntKind.bits, IntKind.signed]; omega
theorem wrap_u64 (n : Int) : IntKind.u64.wrap n = n % 18446744073709551616 := by simp [IntKind.wrap, IntKind.bits, IntKind.signed]
theorem wraps_u32 (n : Int) (h₀ : 0 ≤ n) (h₁ : n < 2 ^ 32) : IntKind.u32.wrap n = n := by
  simp [IntKind.wrap, IntKind.bits, IntKind.signed]; omega
theorem wraps_i64 (n : Int) (h₀ : 0 ≤ n) (h₁ : n < 2 ^ 63) : IntKind.i64.wrap n = n := by
  rw [IntKind.wrap_i64]; omega
theorem bits_xor_nat (k : IntKind) (j : Nat) (hj : j ≤ k.bits) (hk : ∀ n : Int, 0 ≤ n → n < 2 ^ j → k.wrap n = n) (a b : Nat) (ha : a < 2 ^ j) (hb : b < 2 ^ j) :
    bits .xor k a b = ((a ^^^ b : Nat) : Int) := by
  have hp : 2 ^ j ≤ 2 ^ k.bits := Nat.pow_le_pow_right (by decide) hj
  have ha' : a % 2 ^ k.bits = a := Nat.mod_eq_of_lt (Nat.lt_of_lt_of_le ha hp)
  have hb' : b % 2 ^ k.bits = b := Nat.mod_eq_of_lt (Nat.lt_of_lt_of_le hb hp)
  simp only [bits, BitVec.ofInt_natCast, BitVec.toNat_xor, BitVec.toNat_ofNat, ha', hb']
  exact hk _ (Int.natCast_nonneg _) (by exact_mod_cast Nat.xor_lt_two_pow ha hb)
theorem u64_xor0 (x : Int) (h0 : 0 ≤ x) (h1 : x < 2 ^ 64) : bits .xor .u64 x 0 = x := by
  obtain ⟨a, rfl⟩ := Int.eq_ofNat_of_zero_le h0
  have := bits_xor_nat .u64 64 (by decide) wraps_u64 a 0 (by omega) (by decide)
  simpa using this
theorem nat_xor_ones (a : Nat) (h : a < 2 ^ 64) : a ^^^ 18446744073709551615 = 18446744073709551615 - a := by
  have h2 := BitVec.toNat_xor (BitVec.ofNat 64 a) (BitVec.allOnes 64)
  rw [BitVec.xor_allOnes, BitVec.toNat_not] at h2
  simp [BitVec.toNat_ofNat, Nat.mod_eq_of_lt h] at h2
  omega
theorem u64_xor1 (x : Int) (h0 : 0 ≤ x) (h1 : x < 2 ^ 64) : bits .xor .u64 x 18446744073709551615 = 18446744073709551615 - x := by
  obtain ⟨a, rfl⟩ := Int.eq_ofNat_of_zero_le h0
  have := bits_xor_nat .u64 64 (by decide) wraps_u64 a 18446744073709551615 (by omega) (by decide)
  rw [nat_xor_ones a (by omega)] at this
  have h3 : ((18446744073709551615 : Nat) : Int) = 18446744073709551615 := rfl
  rw [h3] at this
  rw [this]; omega
theorem u64_and127 (x : Int) (h₀ : 0 ≤ x) (h₁ : x < 2 ^ 64) : bits .and .u64 x 127 = x % 128 := bits_mask .u64 64 (by decide) wraps_u64 7 (by decide) x h₀ h₁
theorem u64_and1 (x : Int) (h₀ : 0 ≤ x) (h₁ : x < 2 ^ 64) : bits .and .u64 x 1 = x % 2 := bits_mask .u64 64 (by decide) wraps_u64 1 (by decide) x h₀ h₁
theorem u8_and127 (x : Int) (h₀ : 0 ≤ x) (h₁ : x < 256) : bits .and .u8 x 127 = x % 128 := bits_mask .u8 8 (by decide) wraps_u8 7 (by decide) x h₀ h₁
theorem i64_and255 (x : Int) (h₀ : 0 ≤ x) (h₁ : x < 2 ^ 63) : bits .and .i64 x 255 = x % 256 := bits_mask .i64 63 (by decide) wraps_i64 8 (by decide) x h₀ h₁
theorem bits_or_comm (k : IntKind) (x y : Int) : bits .or k x y = bits .or k y x := by simp only [bits, BitVec.or_comm]
theorem bits_and_comm (k : IntKind) (x y : Int) : bits .and k x y = bits .and k y x := by simp only [bits, BitVec.and_comm]
theorem u8_or_128 (x : Int) (h₀ : 0 ≤ x) (h₁ : x < 128) : bits .or .u8 x 128 = x + 128 := by
  rw [bits_or_comm, bits_join .u8 8 (by decide) wraps_u8 7 128 x (by decide) (by decide) (by decide) h₀ h₁ (by omega)]; omega
theorem u64_or_join (i : Nat) (x y : Int) (hi : i ≤ 64) (hx₀ : 0 ≤ x) (hx : x < 2 ^ i) (hy0 : 0 ≤ y) (hy : y % 2 ^ i = 0) (hy₁ : y < 2 ^ 64) : bits .or .u64 x y = x + y := by
  rw [bits_or_comm, bits_join .u64 64 (by decide) wraps_u64 i y x hy0 hy hy₁ hx₀ hx (Int.lt_of_lt_of_le hx (by exact_mod_cast Nat.pow_le_pow_right (by decide) hi))]
  omega
theorem i64_or_join (i : Nat) (x y : Int) (hx0 : 0 ≤ x) (hx : x % 2 ^ i = 0) (hx1 : x < 2 ^ 63) (hy0 : 0 ≤ y) (hy : y < 2 ^ i) (hy1 : y < 2 ^ 63) : bits .or .i64 x y = x + y :=
  bits_join .i64 63 (by decide) wraps_i64 i x y hx0 hx hx1 hy0 hy hy1
end Go.Proofs.Ytkkelbakadbbhaa.Sp
/- The encoding of numbers as bytes, and its decoding: plain facts, no program in sight. -/
set_option linter.unusedVariables false
set_option linter.unusedSimpArgs false
namespace Go.Proofs.Ytkkelbakadbbhaa.Sp
open Go.RowKit Go.Proofs.YtkkelbakadbbhaaW.PrintWords Go.Proofs.YtkkelbakadbbhaaW.PrintMore

def Byt (l : List Int) : Prop := ∀ x ∈ l, 0 ≤ x ∧ x ≤ 255
theorem Byt.nil : Byt [] := fun x h => by simp at h
theorem Byt.append {a b : List Int} (ha : Byt a) (hb : Byt b) : Byt (a ++ b) := fun x h => by
  rcases List.mem_append.1 h with h | h
  · exact ha x h
  · exact hb x h
theorem Byt.cons {x : Int} {a : List Int} (h0 : 0 ≤ x) (h1 : x ≤ 255) (ha : Byt a) : Byt (x :: a) := fun y h => by
  rcases List.mem_cons.1 h with rfl | h
  · exact ⟨h0, h1⟩
  · exact ha y h
theorem Byt.take {a : List Int} (h : Byt a) (n : Nat) : Byt (a.take n) := fun x hx => h x (List.mem_of_mem_take hx)
theorem Byt.drop {a : List Int} (h : Byt a) (n : Nat) : Byt (a.drop n) := fun x hx => h x (List.mem_of_mem_drop hx)
theorem Byt.left {a b : List Int} (h : Byt (a ++ b)) : Byt a := fun x hx => h x (List.mem_append_left _ hx)
theorem Byt.right {a b : List Int} (h : Byt (a ++ b)) : Byt b := fun x hx => h x (List.mem_append_right _ hx)
theorem byt_of_wf {l : List Int} (h : ∀ x ∈ l, (Lit.int .u8 x).wf = true) : Byt l := fun x hx => by
  have := h x hx
  simp [Lit.wf, IntKind.min, IntKind.max, IntKind.bits, IntKind.signed] at this
  omega

theorem wf64 {n : Int} (h : (Lit.int .i64 n).wf = true) : -9223372036854775808 ≤ n ∧ n ≤ 9223372036854775807 := by
  simp [Lit.wf, IntKind.min, IntKind.max, IntKind.bits, IntKind.signed] at h
  omega
theorem wf8 {n : Int} (h : (Lit.int .u8 n).wf = true) : 0 ≤ n ∧ n ≤ 255 := by
  simp [Lit.wf, IntKind.min, IntKind.max, IntKind.bits, IntKind.signed] at h
  omega

def enc (c : Nat) : List Int := if c < 128 then [(c : Int)] else ((c % 128 + 128 : Nat) : Int) :: enc (c / 128)
termination_by c
decreasing_by omega
theorem enc_small {c : Nat} (h : c < 128) : enc c = [(c : Int)] := by rw [enc, if_pos h]
theorem enc_big {c : Nat} (h : ¬ c < 128) : enc c = ((c % 128 + 128 : Nat) : Int) :: enc (c / 128) := by rw [enc, if_neg h]
theorem enc_pos (c : Nat) : 1 ≤ (enc c).length := by
  rw [enc]; split <;> simp
theorem enc_byt (c : Nat) : Byt (enc c) := by
  induction c using Nat.strongRecOn with
  | _ c ih =>
    by_cases h : c < 128
    · rw [enc_small h]; exact Byt.cons (by omega) (by omega) Byt.nil
    · rw [enc_big h]; exact Byt.cons (by omega) (by omega) (ih _ (by omega))
theorem enc_len (c : Nat) : ∀ j, c < 128 ^ (j + 1) → (enc c).length ≤ j + 1 := by
  induction c using Nat.strongRecOn with
  | _ c ih =>
    intro j hj
    by_cases h : c < 128
    · rw [enc_small h]; simp
    · rw [enc_big h]
      cases j with
      | zero => simp at hj; omega
      | succ j =>
        have := ih (c / 128) (by omega) j (by rw [Nat.pow_succ] at hj; omega)
        simp; omega
theorem enc_len10 {c : Nat} (h : c < 2 ^ 64) : (enc c).length ≤ 10 := enc_len c 9 (Nat.lt_of_lt_of_le h (by decide))

def code (n : Int) : Nat := if 0 ≤ n then (2 * n).toNat else (-(2 * n) - 1).toNat
def num (c : Nat) : Int := if c % 2 = 0 then ((c / 2 : Nat) : Int) else -((c / 2 : Nat) : Int) - 1
theorem num_code (n : Int) : num (code n) = n := by unfold num code; split <;> split <;> omega
theorem code_num (c : Nat) : code (num c) = c := by unfold num code; split <;> split <;> omega
theorem code_lt {n : Int} (h0 : -9223372036854775808 ≤ n) (h1 : n ≤ 9223372036854775807) : code n < 2 ^ 64 := by unfold code; split <;> omega
theorem num_range {c : Nat} (h : c < 2 ^ 64) : -9223372036854775808 ≤ num c ∧ num c ≤ 9223372036854775807 := by unfold num; split <;> omega

inductive Dec where
  | ok (c k : Nat)
  | trunc
  | syn
def dec : List Int → Nat → Nat → Dec
  | [], _, _ => .trunc
  | x :: r, i, c => if (i = 9 ∧ 1 < x) ∨ (0 < i ∧ x = 0) then .syn else if x < 128 then .ok (c + x.toNat * 128 ^ i) (i + 1) else dec r (i + 1) (c + (x.toNat - 128) * 128 ^ i)
theorem pow128_9 : (128 : Nat) ^ 9 = 9223372036854775808 := by decide
theorem dec_syn {x : Int} {r : List Int} {i c : Nat} (h : (i = 9 ∧ 1 < x) ∨ (0 < i ∧ x = 0)) : dec (x :: r) i c = .syn := by rw [dec, if_pos h]
theorem dec_ok {x : Int} {r : List Int} {i c : Nat} (h : ¬ ((i = 9 ∧ 1 < x) ∨ (0 < i ∧ x = 0))) (hx : x < 128) : dec (x :: r) i c = .ok (c + x.toNat * 128 ^ i) (i + 1) := by rw [dec, if_neg h, if_pos hx]
theorem dec_more {x : Int} {r : List Int} {i c : Nat} (h : ¬ ((i = 9 ∧ 1 < x) ∨ (0 < i ∧ x = 0))) (hx : ¬ x < 128) : dec (x :: r) i c = dec r (i + 1) (c + (x.toNat - 128) * 128 ^ i) := by rw [dec, if_neg h, if_neg hx]

theorem pow128_dvd (i : Nat) : ∀ c : Nat, c * 128 ^ i < 2 ^ 64 → i = 9 → c ≤ 1 := by
  intro c h hi; subst hi; rw [pow128_9] at h; omega
theorem pow128_10 {i c : Nat} (h : c * 128 ^ i < 2 ^ 64) (hc : 0 < c) : i ≤ 9 := by
  apply Decidable.byContradiction
  intro hn
  have h1 : 128 ^ 10 ≤ 128 ^ i := Nat.pow_le_pow_right (by decide) (by omega)
  have h2 : 128 ^ i ≤ c * 128 ^ i := Nat.le_mul_of_pos_left _ hc
  have h3 : (2 : Nat) ^ 64 ≤ 128 ^ 10 := by decide
  omega
/-- What was encoded is decoded, whatever follows. -/
theorem dec_enc (r : List Int) (c : Nat) : ∀ i a, c * 128 ^ i < 2 ^ 64 → (i = 0 ∨ 0 < c) → dec (enc c ++ r) i a = .ok (a + c * 128 ^ i) (i + (enc c).length) := by
  induction c using Nat.strongRecOn with
  | _ c ih =>
    intro i a h hi
    have h9 := pow128_dvd i c h
    by_cases hc : c < 128
    · rw [enc_small hc]
      have hn : ¬ ((i = 9 ∧ 1 < ((c : Nat) : Int)) ∨ (0 < i ∧ ((c : Nat) : Int) = 0)) := by omega
      rw [List.singleton_append, dec_ok hn (by omega)]
      simp
    · rw [enc_big hc]
      have hn : ¬ ((i = 9 ∧ 1 < ((c % 128 + 128 : Nat) : Int)) ∨ (0 < i ∧ ((c % 128 + 128 : Nat) : Int) = 0)) := by omega
      rw [List.cons_append, dec_more hn (by omega)]
      have hp : c / 128 * 128 ^ (i + 1) = c * 128 ^ i - c % 128 * 128 ^ i := by
        have h1 : c / 128 * 128 = c - c % 128 := by omega
        rw [Nat.pow_succ, Nat.mul_comm (128 ^ i), ← Nat.mul_assoc, h1, Nat.sub_mul]
      have hle : c % 128 * 128 ^ i ≤ c * 128 ^ i := Nat.mul_le_mul_right _ (Nat.mod_le _ _)
      rw [ih (c / 128) (by omega) (i + 1) _ (by omega) (.inr (by omega)), hp]
      have e1 : (((c % 128 + 128 : Nat) : Int).toNat - 128) = c % 128 := by omega
      rw [e1]
      have e2 : a + c % 128 * 128 ^ i + (c * 128 ^ i - c % 128 * 128 ^ i) = a + c * 128 ^ i := by
        generalize c % 128 * 128 ^ i = u at *
        generalize c * 128 ^ i = v at *
        omega
      have e3 : i + 1 + (enc (c / 128)).length = i + (((c % 128 + 128 : Nat) : Int) :: enc (c / 128)).length := by rw [List.length_cons]; omega
      rw [e2, e3]
/-- What is accepted is what is written. -/
theorem dec_only (l : List Int) : ∀ i a c k, Byt l → i ≤ 9 → dec l i a = .ok c k →
    ∃ c', c = a + c' * 128 ^ i ∧ k = i + (enc c').length ∧ (enc c').length ≤ l.length ∧ l.take (enc c').length = enc c' ∧ (i = 0 ∨ 0 < c') ∧ c' * 128 ^ i < 2 ^ 64 := by
  induction l with
  | nil => intro i a c k _ _ h; simp [dec] at h
  | cons x r ih =>
    intro i a c k hb hi h
    have hx := hb x (by simp)
    by_cases hs : (i = 9 ∧ 1 < x) ∨ (0 < i ∧ x = 0)
    · rw [dec_syn hs] at h; cases h
    · by_cases hlt : x < 128
      · rw [dec_ok hs hlt] at h
        injection h with h1 h2
        have he : enc x.toNat = [x] := by rw [enc_small (by omega)]; congr 1; omega
        refine ⟨x.toNat, h1.symm, by rw [he]; simp; omega, by rw [he]; simp, by rw [he]; simp, by omega, ?_⟩
        have hle : 128 ^ i ≤ 128 ^ 9 := Nat.pow_le_pow_right (by decide) hi
        by_cases h9 : i = 9
        · subst h9; rw [pow128_9]; omega
        · have hle8 : 128 ^ i ≤ 128 ^ 8 := Nat.pow_le_pow_right (by decide) (by omega)
          have h3 : x.toNat * 128 ^ i ≤ 127 * 128 ^ 8 := Nat.mul_le_mul (by omega) hle8
          have h4 : (127 : Nat) * 128 ^ 8 < 2 ^ 64 := by decide
          omega
      · rw [dec_more hs hlt] at h
        have hi9 : i ≠ 9 := by omega
        obtain ⟨c', h1, h2, h3, h4, h5, h6⟩ := ih (i + 1) _ c k (fun y hy => hb y (List.mem_cons_of_mem _ hy)) (by omega) h
        have hc' : 0 < c' := by omega
        have hbig : ¬ (c' * 128 + (x.toNat - 128)) < 128 := by omega
        have he : enc (c' * 128 + (x.toNat - 128)) = x :: enc c' := by
          rw [enc_big hbig]
          congr 1
          · omega
          · congr 1; omega
        have hp : c' * 128 ^ (i + 1) = c' * 128 * 128 ^ i := by rw [Nat.pow_succ, Nat.mul_comm (128 ^ i), ← Nat.mul_assoc]
        refine ⟨c' * 128 + (x.toNat - 128), ?_, by rw [he]; simp; omega, by rw [he]; simp; omega, ?_, .inr (by omega), ?_⟩
        · rw [h1, hp, Nat.add_mul]; omega
        · rw [he]; simp [h4]
        · -- c' * 128^(i+1) < 2^64, and below the next multiple
          rw [Nat.add_mul, ← hp]
          have hd : (2 : Nat) ^ 64 = 2 ^ (64 - 7 * (i + 1)) * 128 ^ (i + 1) := by
            have : (128 : Nat) = 2 ^ 7 := by decide
            rw [this, ← Nat.pow_mul, ← Nat.pow_add]
            congr 1; omega
          have hlt2 : c' < 2 ^ (64 - 7 * (i + 1)) := by
            rw [hd] at h6
            exact Nat.lt_of_mul_lt_mul_right h6
          have h7 : (c' + 1) * 128 ^ (i + 1) ≤ 2 ^ 64 := by rw [hd]; exact Nat.mul_le_mul_right _ hlt2
          have h8 : (x.toNat - 128) * 128 ^ i < 128 ^ (i + 1) := by
            rw [Nat.pow_succ, Nat.mul_comm (128 ^ i)]
            exact Nat.mul_lt_mul_of_pos_right (by omega) (Nat.pow_pos (by decide))
          rw [Nat.add_mul] at h7
          omega
/-- What ends too early is torn. -/
theorem dec_torn (c : Nat) : ∀ i a m, c * 128 ^ i < 2 ^ 64 → (i = 0 ∨ 0 < c) → m < (enc c).length → dec ((enc c).take m) i a = .trunc := by
  induction c using Nat.strongRecOn with
  | _ c ih =>
    intro i a m h hi hm
    have h9 := pow128_dvd i c h
    cases m with
    | zero => simp [dec]
    | succ m =>
      by_cases hc : c < 128
      · rw [enc_small hc] at hm; simp at hm
      · rw [enc_big hc] at hm ⊢
        have hn : ¬ ((i = 9 ∧ 1 < ((c % 128 + 128 : Nat) : Int)) ∨ (0 < i ∧ ((c % 128 + 128 : Nat) : Int) = 0)) := by omega
        rw [List.take_succ_cons, dec_more hn (by omega)]
        have hp : c / 128 * 128 ^ (i + 1) ≤ c * 128 ^ i := by
          rw [Nat.pow_succ, Nat.mul_comm (128 ^ i), ← Nat.mul_assoc]
          exact Nat.mul_le_mul_right _ (Nat.div_mul_le_self _ _)
        exact ih (c / 128) (by omega) (i + 1) _ m (by omega) (.inr (by omega)) (by simp at hm; omega)
/-- More bytes behind do not change an answer. -/
theorem dec_append (l r : List Int) : ∀ i a, dec l i a ≠ .trunc → dec (l ++ r) i a = dec l i a := by
  induction l with
  | nil => intro i a h; simp [dec] at h
  | cons x l ih =>
    intro i a h
    rw [List.cons_append]
    by_cases hs : (i = 9 ∧ 1 < x) ∨ (0 < i ∧ x = 0)
    · rw [dec_syn hs, dec_syn hs]
    · by_cases hlt : x < 128
      · rw [dec_ok hs hlt, dec_ok hs hlt]
      · rw [dec_more hs hlt] at h
        rw [dec_more hs hlt, dec_more hs hlt]
        exact ih _ _ h
end Go.Proofs.Ytkkelbakadbbhaa.Sp
/- What the functions of package pack, and of its reference, compute: the encoding and the decoding of numbers. -/
set_option linter.unusedVariables false
set_option linter.unusedSimpArgs false
namespace Go.Proofs.Ytkkelbakadbbhaa.Sp
open Go.RowKit Go.Proofs.YtkkelbakadbbhaaW.PrintWords Go.Proofs.YtkkelbakadbbhaaW.PrintLast Go.Proofs.YtkkelbakadbbhaaW.PrintMore Go.Proofs.Ytkkelbakadbbhaa.J

theorem Ev.pos {α : Type} {c : Prop} [Decidable c] {a b : Nat → Option α} {r : α} (h : c) (e : Ev a r) : Ev (fun k => if c then a k else b k) r := Ev.congr (fun k => if_pos h) e
theorem Ev.neg {α : Type} {c : Prop} [Decidable c] {a b : Nat → Option α} {r : α} (h : ¬ c) (e : Ev b r) : Ev (fun k => if c then a k else b k) r := Ev.congr (fun k => if_neg h) e
theorem Ev.eq {α : Type} {g : Nat → Option α} {r : α} (h : ∀ k, g k = some r) : Ev g r := ⟨0, fun k _ => h k⟩
theorem Ev.get {α β : Type} {o : Option α} {x : α} {f : Nat → α → Option β} {r : β} (h : o = some x) (e : Ev (fun k => f k x) r) : Ev (fun k => o.bind (f k)) r := by subst h; exact e
theorem wrap64_in {n : Int} (h0 : -9223372036854775808 ≤ n) (h1 : n ≤ 9223372036854775807) : wrap64 n = n := by unfold wrap64; omega
theorem u64w {n : Int} (h0 : 0 ≤ n) (h1 : n < 18446744073709551616) : IntKind.u64.wrap n = n := by rw [wrap_u64]; omega
theorem tmod_nn {a b : Int} (h : 0 ≤ a) : Int.tmod a b = a % b := Int.tmod_eq_emod_of_nonneg h
theorem tdiv_nn {a b : Int} (h : 0 ≤ a) : Int.tdiv a b = a / b := Int.tdiv_eq_ediv_of_nonneg h

theorem pack_code_eq (n : Int) (h0 : -9223372036854775808 ≤ n) (h1 : n ≤ 9223372036854775807) : pack_code.f n = some ((code n : Nat) : Int) := by
  unfold pack_code.f
  rw [wrap_u64, wrap_u64, wrap_u64]
  by_cases h : 0 ≤ n
  · have e1 : n / 9223372036854775808 = 0 := by omega
    have e2 : (0 : Int) % 18446744073709551616 = 0 := rfl
    rw [e1, e2, u64_xor0 _ (by omega) (by omega)]
    congr 1; unfold code; rw [if_pos h]; omega
  · have e1 : n / 9223372036854775808 = -1 := by omega
    have e2 : (-1 : Int) % 18446744073709551616 = 18446744073709551615 := rfl
    rw [e1, e2, u64_xor1 _ (by omega) (by omega)]
    congr 1; unfold code; rw [if_neg h]; omega
theorem add_step {c : Nat} (h : 128 ≤ c) (hc : c < 2 ^ 64) : Go.bits .or .u8 ((Go.bits .and .u64 (c : Int) 127) % 256) 128 = ((c % 128 + 128 : Nat) : Int) := by
  rw [u64_and127 _ (by omega) (by omega), u8_or_128 _ (by omega) (by omega)]; omega
theorem pack_add_l0 (c : Nat) : c < 2 ^ 64 → ∀ l : List Int, l.length + (enc c).length ≤ 140737488355328 → Ev (fun k => pack_add.l0 k l (c : Int)) (l ++ enc c) := by
  induction c using Nat.strongRecOn with
  | _ c ih =>
    intro hc l hl
    have hp := enc_pos c
    by_cases h : c < 128
    · rw [enc_small h] at hl ⊢
      simp at hl
      refine Ev.step (f := fun _ => some (l ++ [(c : Int)])) (fun k => ?_) (Ev.now _)
      simp only [pack_add.l0]
      rw [if_neg (by omega), if_pos (by omega), show (c : Int) % 256 = c from by omega]
    · rw [enc_big h] at hl ⊢
      simp at hl
      have h2 := ih (c / 128) (by omega) (by omega) (l ++ [((c % 128 + 128 : Nat) : Int)]) (by simp; omega)
      rw [List.append_assoc] at h2
      refine Ev.step (fun k => ?_) h2
      simp only [pack_add.l0]
      rw [if_pos (by omega), if_pos (by omega), add_step (by omega) hc, show (c : Int) / 128 = ((c / 128 : Nat) : Int) from by omega]
theorem pack_add_ev (l : List Int) (n : Int) (h0 : -9223372036854775808 ≤ n) (h1 : n ≤ 9223372036854775807) (hl : l.length ≤ 140737488355318) : Ev (fun k => pack_add.f k l n) (l ++ enc (code n)) := by
  unfold pack_add.f
  refine Ev.get (pack_code_eq n h0 h1) (pack_add_l0 _ (code_lt h0 h1) l ?_)
  have := enc_len10 (code_lt h0 h1)
  omega
theorem pack_owned_eq (l : List Int) (n : Int) (h0 : 0 ≤ n) (h1 : (l.length : Int) + n ≤ 140737488355328) : pack_owned.f l n = some l := by unfold pack_owned.f; rw [if_pos h0, if_pos h1]
theorem pack_PutNum_ev (l : List Int) (n : Int) (h0 : -9223372036854775808 ≤ n) (h1 : n ≤ 9223372036854775807) (hl : l.length ≤ 140737488355318) : Ev (fun k => pack_PutNum.f k l n) (l ++ enc (code n)) := by
  unfold pack_PutNum.f
  refine Ev.get (pack_owned_eq l 10 (by omega) (by omega)) (Ev.bind (pack_add_ev l n h0 h1 hl) (Ev.now _))

theorem ref_code_eq (n : Int) (h0 : -9223372036854775808 ≤ n) (h1 : n ≤ 9223372036854775807) : brokerref03_code.f n = some ((code n : Nat) : Int) := by
  unfold brokerref03_code.f
  by_cases h : 0 ≤ n
  · rw [if_pos h, u64w (n := n) (by omega) (by omega), u64w (by omega) (by omega)]
    congr 1; unfold code; rw [if_pos h]; omega
  · rw [if_neg h, wrap64_in (n := n + 1) (by omega) (by omega), wrap64_in (by omega) (by omega), u64w (n := -(n + 1)) (by omega) (by omega), u64w (n := -(n + 1) * 2) (by omega) (by omega), u64w (by omega) (by omega)]
    congr 1; unfold code; rw [if_neg h]; omega
theorem ref_PutNum_l0 (c : Nat) : c < 2 ^ 64 → ∀ l : List Int, l.length + (enc c).length ≤ 140737488355328 → Ev (fun k => brokerref03_PutNum.l0 k l (c : Int)) (l ++ enc c) := by
  induction c using Nat.strongRecOn with
  | _ c ih =>
    intro hc l hl
    have hp := enc_pos c
    by_cases h : c < 128
    · rw [enc_small h] at hl ⊢
      simp at hl
      refine Ev.step (f := fun _ => some (l ++ [(c : Int)])) (fun k => ?_) (Ev.now _)
      simp only [brokerref03_PutNum.l0]
      rw [if_neg (by omega), if_pos (by omega), show (c : Int) % 256 = c from by omega]
    · rw [enc_big h] at hl ⊢
      simp at hl
      have h2 := ih (c / 128) (by omega) (by omega) (l ++ [((c % 128 + 128 : Nat) : Int)]) (by simp; omega)
      rw [List.append_assoc] at h2
      refine Ev.step (fun k => ?_) h2
      simp only [brokerref03_PutNum.l0]
      rw [if_pos (by omega), if_pos (by omega), tmod_nn (by omega), tdiv_nn (by omega), u64w (by omega) (by omega), show ((c : Int) % 128 + 128) % 256 = ((c % 128 + 128 : Nat) : Int) from by omega, show (c : Int) / 128 = ((c / 128 : Nat) : Int) from by omega]
theorem ref_PutNum_ev (l : List Int) (n : Int) (h0 : -9223372036854775808 ≤ n) (h1 : n ≤ 9223372036854775807) (hl : l.length ≤ 140737488355318) : Ev (fun k => brokerref03_PutNum.f k l n) (l ++ enc (code n)) := by
  unfold brokerref03_PutNum.f
  have := enc_len10 (code_lt h0 h1)
  refine Ev.get (x := ([] : List Int)) rfl (Ev.pos (by simp; omega) (Ev.get (ref_code_eq n h0 h1) ?_))
  rw [List.nil_append]
  exact ref_PutNum_l0 _ (code_lt h0 h1) l (by omega)

/-! ### decoding -/
def rNum (b : List Int) (p : Int) : Int × Int × Int :=
  if p < 0 ∨ p > (b.length : Int) then (0, 0, 1) else
    match dec (b.drop p.toNat) 0 0 with
    | .trunc => (0, 0, 3)
    | .syn => (0, 0, 2)
    | .ok c k => (num c, p + k, 0)
def fin (p : Int) : Dec → Int × Int × Int
  | .trunc => (0, 0, 3)
  | .syn => (0, 0, 2)
  | .ok c k => (num c, p + k, 0)
theorem rNum_in {b : List Int} {p : Int} (h0 : 0 ≤ p) (h1 : p ≤ (b.length : Int)) : rNum b p = fin p (dec (b.drop p.toNat) 0 0) := by
  unfold rNum; rw [if_neg (by omega)]; cases dec (b.drop p.toNat) 0 0 <;> rfl
theorem rNum_out {b : List Int} {p : Int} (h : p < 0 ∨ p > (b.length : Int)) : rNum b p = (0, 0, 1) := by unfold rNum; rw [if_pos h]
theorem pack_number_eq (c : Nat) (h : c < 2 ^ 64) : pack_number.f (c : Int) = some (num c) := by
  unfold pack_number.f
  rw [u64_and1 _ (by omega) (by omega)]
  by_cases h2 : c % 2 = 0
  · rw [if_neg (by omega), wrap64_in (by omega) (by omega)]
    congr 1; unfold num; rw [if_pos h2]; omega
  · rw [if_pos (by omega), wrap64_in (n := (c : Int) / 2) (by omega) (by omega), wrap64_in (n := -((c : Int) / 2)) (by omega) (by omega), wrap64_in (by omega) (by omega)]
    congr 1; unfold num; rw [if_neg h2]; omega
theorem ref_number_eq (c : Nat) (h : c < 2 ^ 64) : brokerref03_number.f (c : Int) = some (num c) := by
  unfold brokerref03_number.f
  rw [tmod_nn (by omega), tdiv_nn (by omega), u64w (n := (c : Int) / 2) (by omega) (by omega)]
  by_cases h2 : c % 2 = 0
  · rw [if_pos (by omega), wrap64_in (by omega) (by omega)]
    congr 1; unfold num; rw [if_pos h2]; omega
  · rw [if_neg (by omega), wrap64_in (n := (c : Int) / 2) (by omega) (by omega), wrap64_in (n := -((c : Int) / 2)) (by omega) (by omega), wrap64_in (by omega) (by omega)]
    congr 1; unfold num; rw [if_neg h2]; omega
theorem drop_rd {b : List Int} {q : Nat} (h : q < b.length) : b.drop q = rd b (q : Int) :: b.drop (q + 1) := by
  rw [List.drop_eq_getElem_cons h]
  simp [rd, List.getD_eq_getElem?_getD, List.getElem?_eq_getElem h]
theorem rd_byt {b : List Int} (hb : Byt b) {q : Nat} (h : q < b.length) : 0 ≤ rd b (q : Int) ∧ rd b (q : Int) ≤ 255 := by
  apply hb
  have := drop_rd h
  have h2 : rd b (q : Int) ∈ b.drop q := by rw [this]; simp
  exact List.mem_of_mem_drop h2
theorem pow_le {i : Nat} (h : i ≤ 8) : (128 : Nat) ^ i ≤ 72057594037927936 := Nat.le_trans (Nat.pow_le_pow_right (by decide) h) (by decide)
theorem two_pow7 (i : Nat) : (2 : Nat) ^ (7 * i) = 128 ^ i := by rw [Nat.pow_mul]
/-- A group of seven bits, set at its place. -/
theorem group {i c x : Nat} (hi : i ≤ 9) (hc : c < 128 ^ i) (hx : x ≤ 255) (h9 : i = 9 → x ≤ 1) :
    Go.bits .or .u64 (c : Int) (shl .u64 (IntKind.u64.wrap (Go.bits .and .u8 (x : Int) 127)) (wrap64 (7 * (i : Int)))) = ((c + x % 128 * 128 ^ i : Nat) : Int) ∧ c + x % 128 * 128 ^ i < 2 ^ 64 := by
  have hb : x % 128 * 128 ^ i < 2 ^ 64 := by
    by_cases h : i = 9
    · subst h; have := h9 rfl; rw [pow128_9]; omega
    · have h8 := pow_le (i := i) (by omega)
      have : x % 128 * 128 ^ i ≤ 127 * 72057594037927936 := Nat.mul_le_mul (by omega) h8
      omega
  have hsum : c + x % 128 * 128 ^ i < 2 ^ 64 := by
    by_cases h : i = 9
    · subst h; have := h9 rfl; rw [pow128_9] at *; omega
    · have h8 := pow_le (i := i) (by omega)
      have : x % 128 * 128 ^ i ≤ 127 * 72057594037927936 := Nat.mul_le_mul (by omega) h8
      omega
  refine ⟨?_, hsum⟩
  have e1 : Go.bits .and .u8 (x : Int) 127 = ((x % 128 : Nat) : Int) := by rw [u8_and127 _ (by omega) (by omega)]; omega
  rw [e1, u64w (by omega) (by omega), wrap64_in (by omega) (by omega)]
  unfold shl
  have e2 : (7 * (i : Int)).toNat = 7 * i := by omega
  have e3 : min (7 * i) IntKind.u64.bits = 7 * i := by simp [IntKind.bits]; omega
  rw [e2, e3]
  have e4 : ((x % 128 : Nat) : Int) * 2 ^ (7 * i) = ((x % 128 * 128 ^ i : Nat) : Int) := by
    rw [← two_pow7 i]; push_cast; rfl
  rw [e4, u64w (by omega) (by omega)]
  have e5 : (((x % 128 * 128 ^ i : Nat) : Int)) % 2 ^ (7 * i) = 0 := by
    have : (2 : Int) ^ (7 * i) = ((128 ^ i : Nat) : Int) := by rw [← two_pow7 i]; push_cast; rfl
    rw [this]
    have h1 : (x % 128 * 128 ^ i) % 128 ^ i = 0 := Nat.mul_mod_left _ _
    exact_mod_cast h1
  rw [u64_or_join (7 * i) (c : Int) _ (by omega) (by omega) (by have : (2 : Int) ^ (7 * i) = ((128 ^ i : Nat) : Int) := by { rw [← two_pow7 i]; push_cast; rfl }
                                                                rw [this]; exact_mod_cast hc) (by omega) e5 (by exact_mod_cast hb)]
  push_cast; rfl
theorem next_lt {i c x : Nat} (hc : c < 128 ^ i) : c + x % 128 * 128 ^ i < 128 ^ (i + 1) := by
  have h1 : (x % 128 + 1) * 128 ^ i ≤ 128 * 128 ^ i := Nat.mul_le_mul_right _ (by omega)
  rw [Nat.pow_succ, Nat.mul_comm (128 ^ i)]
  rw [Nat.add_mul] at h1
  omega
theorem pack_Num_l0 (b : List Int) (hb : Byt b) (hlen : b.length ≤ 4611686018427387904) (p : Nat) : ∀ (d i c : Nat), i + d = 10 → p + i ≤ b.length → c < 128 ^ i → i ≤ 9 → Ev (fun k => pack_Num.l0 k b (p : Int) (c : Int) (i : Int)) (fin p (dec (b.drop (p + i)) i c)) := by
  intro d
  induction d with
  | zero => intro i c h _ _ h9; omega
  | succ d ih =>
    intro i c hd hp hc hi
    have hw : wrap64 ((p : Int) + (i : Int)) = ((p + i : Nat) : Int) := by rw [wrap64_in (by omega) (by omega)]; omega
    by_cases he : p + i = b.length
    · refine Ev.step (f := fun _ => some (0, 0, 3)) (fun k => ?_) ?_
      · simp only [pack_Num.l0]; rw [hw, if_pos (by omega)]
      · rw [he, List.drop_length]; exact Ev.now _
    · have hlt : p + i < b.length := by omega
      have hx := rd_byt hb hlt
      obtain ⟨x, hxe⟩ := Int.eq_ofNat_of_zero_le hx.1
      have hx255 : x ≤ 255 := by omega
      rw [drop_rd hlt, hxe]
      by_cases hs : (i = 9 ∧ 1 < ((x : Nat) : Int)) ∨ (0 < i ∧ ((x : Nat) : Int) = 0)
      · rw [dec_syn hs]
        refine Ev.step (f := fun k => pack_Num.j2 k b (p : Int) (c : Int) (i : Int) (x : Int) true) (fun k => ?_) ?_
        · simp only [pack_Num.l0]
          rw [hw, hxe, if_neg (by omega), if_pos (by omega), if_pos (by omega)]
          by_cases h9 : (i : Int) = 9
          · rw [if_pos h9]
            by_cases h1 : ((x : Nat) : Int) > 1
            · rw [if_pos h1]
            · rw [if_neg h1, if_pos (by omega), show (((x : Nat) : Int) == 0) = true from by rw [beq_iff_eq]; omega]
          · rw [if_neg h9, if_pos (by omega), show (((x : Nat) : Int) == 0) = true from by rw [beq_iff_eq]; omega]
        · refine Ev.step (f := fun _ => some (0, 0, 2)) (fun k => ?_) (Ev.now _)
          simp only [pack_Num.j2, if_true]
      · obtain ⟨hg, hglt⟩ := group (c := c) hi hc hx255 (fun h => by omega)
        refine Ev.step (f := fun k => pack_Num.j2 k b (p : Int) (c : Int) (i : Int) (x : Int) false) (fun k => ?_) ?_
        · simp only [pack_Num.l0]
          rw [hw, hxe, if_neg (by omega), if_pos (by omega), if_pos (by omega)]
          by_cases h9 : (i : Int) = 9
          · rw [if_pos h9, if_neg (by omega), if_pos (by omega), show (((x : Nat) : Int) == 0) = false from by rw [beq_eq_false_iff_ne]; omega]
          · rw [if_neg h9]
            by_cases h0 : (i : Int) > 0
            · rw [if_pos h0, show (((x : Nat) : Int) == 0) = false from by rw [beq_eq_false_iff_ne]; omega]
            · rw [if_neg h0]
        · by_cases hlt128 : ((x : Nat) : Int) < 128
          · rw [dec_ok hs hlt128]
            have e1 : (x : Int).toNat = x % 128 := by omega
            refine Ev.step (f := fun _ => some (num (c + x % 128 * 128 ^ i), (p : Int) + ((i + 1 : Nat) : Int), 0)) (fun k => ?_) ?_
            · simp only [pack_Num.j2]
              rw [if_neg (by simp), if_pos (by rw [wrap64_in (by omega) (by omega)]; omega), if_pos hlt128, hg, pack_number_eq _ hglt, hw]
              simp only [Option.bind_some]
              rw [wrap64_in (by omega) (by omega)]
              congr 3
            · show Ev _ (num (c + (x : Int).toNat * 128 ^ i), (p : Int) + ((i + 1 : Nat) : Int), 0)
              rw [e1]; exact Ev.now _
          · rw [dec_more hs hlt128]
            have e1 : (x : Int).toNat - 128 = x % 128 := by omega
            have hi9 : i ≠ 9 := by omega
            have h2 := ih (i + 1) (c + x % 128 * 128 ^ i) (by omega) (by omega) (next_lt hc) (by omega)
            rw [e1]
            refine Ev.step (fun k => ?_) h2
            simp only [pack_Num.j2]
            rw [if_neg (by simp), if_pos (by rw [wrap64_in (by omega) (by omega)]; omega), if_neg hlt128, hg, wrap64_in (by omega) (by omega)]
            rfl
theorem pack_Num_ev (b : List Int) (hb : Byt b) (hlen : b.length ≤ 4611686018427387904) (p : Int) : Ev (fun k => pack_Num.f k b p) (rNum b p) := by
  unfold pack_Num.f
  by_cases h0 : p < 0
  · rw [rNum_out (.inl h0)]
    refine Ev.pos h0 (Ev.step (f := fun _ => some (0, 0, 1)) (fun k => ?_) (Ev.now _))
    simp only [pack_Num.j0, if_true]
  · refine Ev.neg h0 ?_
    by_cases h1 : p > (b.length : Int)
    · rw [rNum_out (.inr h1), show decide (p > (b.length : Int)) = true from decide_eq_true h1]
      refine Ev.step (f := fun _ => some (0, 0, 1)) (fun k => ?_) (Ev.now _)
      simp only [pack_Num.j0, if_true]
    · rw [show decide (p > (b.length : Int)) = false from decide_eq_false h1]
      obtain ⟨q, rfl⟩ := Int.eq_ofNat_of_zero_le (by omega : 0 ≤ p)
      rw [rNum_in (by omega) (by omega)]
      refine Ev.step (fun k => ?_) (pack_Num_l0 b hb hlen q 10 0 0 rfl (by omega) (by decide) (by omega))
      simp only [pack_Num.j0]
      rw [if_neg (by simp)]
      rfl
end Go.Proofs.Ytkkelbakadbbhaa.Sp
/- What the functions of package pack, and of its reference, compute: numbers read by the reference, texts, lists of texts. -/
set_option linter.unusedVariables false
set_option linter.unusedSimpArgs false
namespace Go.Proofs.Ytkkelbakadbbhaa.Sp
open Go.RowKit Go.Proofs.YtkkelbakadbbhaaW.PrintWords Go.Proofs.YtkkelbakadbbhaaW.PrintLast Go.Proofs.YtkkelbakadbbhaaW.PrintMore Go.Proofs.Ytkkelbakadbbhaa.J

/-! ### strings and lists of bytes -/
theorem str_ext {a b : ByteArray} (h : a.toList = b.toList) : a = b := by
  rw [Go.Lib.toList_data, Go.Lib.toList_data] at h
  have : a.data = b.data := Array.ext' h
  cases a; cases b; simp at this; rw [this]
theorem bytesOf_byt (s : ByteArray) : Byt (bytesOf s) := fun x hx => by
  simp only [bytesOf, List.mem_map] at hx
  obtain ⟨b, _, rfl⟩ := hx
  have := b.toNat_lt
  omega
theorem str_bytes (s : ByteArray) : strOfNums (bytesOf s) = s := by
  apply str_ext
  rw [Go.Lib.toList_data, Go.Lib.toList_data, strOfNums_data]
  simp [bytesOf, Function.comp_def]
theorem bytes_str {l : List Int} (h : Byt l) : bytesOf (strOfNums l) = l := by
  simp only [bytesOf, strOfNums_data, List.map_map]
  conv => rhs; rw [← List.map_id l]
  apply List.map_congr_left
  intro x hx
  have := h x hx
  simp only [Function.comp, id]
  rw [UInt8.toNat_ofNat']
  omega
theorem str_inj {a b : List Int} (ha : Byt a) (hb : Byt b) (h : (strOfNums a).toList = (strOfNums b).toList) : a = b := by
  rw [← bytes_str ha, ← bytes_str hb, str_ext h]
theorem ref_Same_eq (a b : List Int) : brokerref03_Same.f a b = some ((strOfNums a).toList == (strOfNums b).toList) := rfl
theorem ref_Same_self (a : List Int) : brokerref03_Same.f a a = some true := by rw [ref_Same_eq, beq_self_eq_true]

/-! ### the reference's Num -/
theorem ref_group {i c x : Nat} (hi : i ≤ 9) (hc : c < 128 ^ i) (hx : x ≤ 255) (h9 : i = 9 → x ≤ 1) :
    IntKind.u64.wrap ((c : Int) + (IntKind.u64.wrap ((IntKind.u64.wrap (Int.tmod (x : Int) 128)) * ((128 ^ i : Nat) : Int)))) = ((c + x % 128 * 128 ^ i : Nat) : Int) ∧ c + x % 128 * 128 ^ i < 2 ^ 64 := by
  have h := (group hi hc hx h9).2
  refine ⟨?_, h⟩
  rw [tmod_nn (by omega)]
  have e1 : (x : Int) % 128 = ((x % 128 : Nat) : Int) := by omega
  rw [e1, u64w (n := ((x % 128 : Nat) : Int)) (by omega) (by omega)]
  have e2 : ((x % 128 : Nat) : Int) * ((128 ^ i : Nat) : Int) = ((x % 128 * 128 ^ i : Nat) : Int) := by push_cast; rfl
  rw [e2, u64w (n := ((x % 128 * 128 ^ i : Nat) : Int)) (by omega) (by omega), u64w (by omega) (by omega)]
  push_cast; rfl
theorem ref_Num_l0 (b : List Int) (hb : Byt b) (hlen : b.length ≤ 4611686018427387904) (p : Nat) : ∀ (d i c : Nat), i + d = 10 → p + i ≤ b.length → c < 128 ^ i → i ≤ 9 → Ev (fun k => brokerref03_Num.l0 k b (p : Int) (c : Int) ((128 ^ i : Nat) : Int) (i : Int)) (fin p (dec (b.drop (p + i)) i c)) := by
  intro d
  induction d with
  | zero => intro i c h _ _ h9; omega
  | succ d ih =>
    intro i c hd hp hc hi
    have hw : wrap64 ((p : Int) + (i : Int)) = ((p + i : Nat) : Int) := by rw [wrap64_in (by omega) (by omega)]; omega
    have hw2 : wrap64 ((b.length : Int) - (p : Int)) = (b.length : Int) - (p : Int) := wrap64_in (by omega) (by omega)
    by_cases he : p + i = b.length
    · refine Ev.step (f := fun _ => some (0, 0, 3)) (fun k => ?_) ?_
      · simp only [brokerref03_Num.l0]; rw [hw2, if_pos (by omega), if_pos (by omega)]
      · rw [he, List.drop_length]; exact Ev.now _
    · have hlt : p + i < b.length := by omega
      have hx := rd_byt hb hlt
      obtain ⟨x, hxe⟩ := Int.eq_ofNat_of_zero_le hx.1
      have hx255 : x ≤ 255 := by omega
      rw [drop_rd hlt, hxe]
      by_cases hs : (i = 9 ∧ 1 < ((x : Nat) : Int)) ∨ (0 < i ∧ ((x : Nat) : Int) = 0)
      · rw [dec_syn hs]
        refine Ev.step (f := fun k => brokerref03_Num.j2 k b (p : Int) (c : Int) ((128 ^ i : Nat) : Int) (i : Int) (x : Int) true) (fun k => ?_) ?_
        · simp only [brokerref03_Num.l0]
          rw [hw, hw2, hxe, if_pos (by omega), if_neg (by omega), if_pos (by omega), if_pos (by omega)]
          by_cases h9 : (i : Int) = 9
          · rw [if_pos h9]
            by_cases h1 : ((x : Nat) : Int) = 1
            · omega
            · rw [if_neg h1]
          · rw [if_neg h9, if_pos (by omega), show (((x : Nat) : Int) == 0) = true from by rw [beq_iff_eq]; omega]
        · refine Ev.step (f := fun _ => some (0, 0, 2)) (fun k => ?_) (Ev.now _)
          simp only [brokerref03_Num.j2, if_true]
      · obtain ⟨hg, hglt⟩ := ref_group (c := c) hi hc hx255 (fun h => by omega)
        refine Ev.step (f := fun k => brokerref03_Num.j2 k b (p : Int) (c : Int) ((128 ^ i : Nat) : Int) (i : Int) (x : Int) false) (fun k => ?_) ?_
        · simp only [brokerref03_Num.l0]
          rw [hw, hw2, hxe, if_pos (by omega), if_neg (by omega), if_pos (by omega), if_pos (by omega)]
          by_cases h9 : (i : Int) = 9
          · rw [if_pos h9, if_pos (by omega), if_pos (by omega), show (((x : Nat) : Int) == 0) = false from by rw [beq_eq_false_iff_ne]; omega]
          · rw [if_neg h9]
            by_cases h0 : (i : Int) > 0
            · rw [if_pos h0, show (((x : Nat) : Int) == 0) = false from by rw [beq_eq_false_iff_ne]; omega]
            · rw [if_neg h0]
        · by_cases hlt128 : ((x : Nat) : Int) < 128
          · rw [dec_ok hs hlt128]
            have e1 : (x : Int).toNat = x % 128 := by omega
            refine Ev.step (f := fun _ => some (num (c + x % 128 * 128 ^ i), (p : Int) + ((i + 1 : Nat) : Int), 0)) (fun k => ?_) ?_
            · simp only [brokerref03_Num.j2]
              rw [if_neg (by simp), if_pos hlt128, hg, ref_number_eq _ hglt, hw]
              simp only [Option.bind_some]
              rw [wrap64_in (by omega) (by omega)]
              congr 3
            · show Ev _ (num (c + (x : Int).toNat * 128 ^ i), (p : Int) + ((i + 1 : Nat) : Int), 0)
              rw [e1]; exact Ev.now _
          · rw [dec_more hs hlt128]
            have e1 : (x : Int).toNat - 128 = x % 128 := by omega
            have hi9 : i ≠ 9 := by omega
            have h2 := ih (i + 1) (c + x % 128 * 128 ^ i) (by omega) (by omega) (next_lt hc) (by omega)
            rw [e1]
            refine Ev.step (fun k => ?_) h2
            simp only [brokerref03_Num.j2]
            have e2 : IntKind.u64.wrap (((128 ^ i : Nat) : Int) * 128) = ((128 ^ (i + 1) : Nat) : Int) := by
              have h8 : 128 ^ (i + 1) ≤ 128 ^ 9 := Nat.pow_le_pow_right (by decide) (by omega)
              have e3 : ((128 ^ i : Nat) : Int) * 128 = ((128 ^ (i + 1) : Nat) : Int) := by rw [Nat.pow_succ]; push_cast; rfl
              rw [pow128_9] at h8
              rw [e3, u64w (by omega) (by omega)]
            rw [if_neg (by simp), if_neg hlt128, hg, e2, wrap64_in (by omega) (by omega)]
            rfl
theorem ref_Num_ev (b : List Int) (hb : Byt b) (hlen : b.length ≤ 4611686018427387904) (p : Int) : Ev (fun k => brokerref03_Num.f k b p) (rNum b p) := by
  unfold brokerref03_Num.f
  by_cases h0 : p < 0
  · rw [rNum_out (.inl h0)]
    refine Ev.pos h0 (Ev.step (f := fun _ => some (0, 0, 1)) (fun k => ?_) (Ev.now _))
    simp only [brokerref03_Num.j0, if_true]
  · refine Ev.neg h0 ?_
    by_cases h1 : p > (b.length : Int)
    · rw [rNum_out (.inr h1), show decide (p > (b.length : Int)) = true from decide_eq_true h1]
      refine Ev.step (f := fun _ => some (0, 0, 1)) (fun k => ?_) (Ev.now _)
      simp only [brokerref03_Num.j0, if_true]
    · rw [show decide (p > (b.length : Int)) = false from decide_eq_false h1]
      obtain ⟨q, rfl⟩ := Int.eq_ofNat_of_zero_le (by omega : 0 ≤ p)
      rw [rNum_in (by omega) (by omega)]
      refine Ev.step (fun k => ?_) (ref_Num_l0 b hb hlen q 10 0 0 rfl (by omega) (by decide) (by omega))
      simp only [brokerref03_Num.j0]
      rw [if_neg (by simp)]
      rfl
/-- What a number that was read is. -/
theorem rNum_ok {b : List Int} {p n q : Int} (hb : Byt b) (h : rNum b p = (n, q, 0)) :
    0 ≤ p ∧ p < q ∧ q ≤ (b.length : Int) ∧ -9223372036854775808 ≤ n ∧ n ≤ 9223372036854775807 ∧ q = p + ((enc (code n)).length : Int) ∧ (b.drop p.toNat).take (enc (code n)).length = enc (code n) := by
  unfold rNum at h
  by_cases ho : p < 0 ∨ p > (b.length : Int)
  · rw [if_pos ho] at h; simp at h
  · rw [if_neg ho] at h
    cases hd : dec (b.drop p.toNat) 0 0 with
    | trunc => rw [hd] at h; simp at h
    | syn => rw [hd] at h; simp at h
    | ok c k =>
      rw [hd] at h
      simp only [Prod.mk.injEq] at h
      obtain ⟨rfl, rfl, _⟩ := h
      obtain ⟨c', h1, h2, h3, h4, _, h6⟩ := dec_only _ 0 0 c k (hb.drop _) (by omega) hd
      simp at h1 h2 h6
      subst h1
      have hp := enc_pos c
      have hr := num_range h6
      rw [code_num]
      rw [List.length_drop] at h3
      exact ⟨by omega, by omega, by omega, hr.1, hr.2, by omega, h4⟩
theorem rNum_at (l : List Int) (n : Int) (r : List Int) (h0 : -9223372036854775808 ≤ n) (h1 : n ≤ 9223372036854775807) : rNum (l ++ (enc (code n) ++ r)) (l.length : Int) = (n, (l.length : Int) + ((enc (code n)).length : Int), 0) := by
  rw [rNum_in (by omega) (by simp; omega)]
  rw [Int.toNat_natCast, List.drop_left, dec_enc r (code n) 0 0 (by simpa using code_lt h0 h1) (.inl rfl)]
  simp [fin, num_code]
theorem rNum_torn (n : Int) (m : Nat) (h0 : -9223372036854775808 ≤ n) (h1 : n ≤ 9223372036854775807) (hm : m < (enc (code n)).length) : rNum ((enc (code n)).take m) 0 = (0, 0, 3) := by
  rw [rNum_in (by omega) (by omega)]
  have := dec_torn (code n) 0 0 m (by simpa using code_lt h0 h1) (.inl rfl) hm
  simp [this, fin]
theorem rNum_err {b : List Int} {p : Int} : (rNum b p).2.2 = 0 ∨ (rNum b p).2.2 = 1 ∨ (rNum b p).2.2 = 2 ∨ (rNum b p).2.2 = 3 := by
  unfold rNum
  split
  · simp
  · split <;> simp

/-! ### texts -/
def cat (s : ByteArray) : List Int := enc (code (s.size : Int)) ++ bytesOf s
theorem cat_byt (s : ByteArray) : Byt (cat s) := (enc_byt _).append (bytesOf_byt s)
theorem cat_len (s : ByteArray) : (cat s).length = (enc (code (s.size : Int))).length + s.size := by unfold cat; rw [List.length_append, bytesOf_length]
theorem pack_PutText_ev (l : List Int) (s : ByteArray) (hl : l.length ≤ 70368744177664) (hs : s.size ≤ 35184372088832) : Ev (fun k => pack_PutText.f k l s) (l ++ cat s) := by
  unfold pack_PutText.f
  have e1 := enc_len10 (code_lt (n := (s.size : Int)) (by omega) (by omega))
  refine Ev.get (pack_owned_eq l _ (by rw [wrap64_in (by omega) (by omega)]; omega) (by rw [wrap64_in (by omega) (by omega)]; omega)) ?_
  refine Ev.bind (pack_add_ev l _ (by omega) (by omega) (by omega)) (Ev.pos (by rw [List.length_append]; omega) ?_)
  rw [List.append_assoc]; exact Ev.now _
theorem ref_PutText_ev (l : List Int) (s : ByteArray) (hl : l.length ≤ 70368744177664) (hs : s.size ≤ 35184372088832) : Ev (fun k => brokerref03_PutText.f k l s) (l ++ cat s) := by
  unfold brokerref03_PutText.f
  have e1 := enc_len10 (code_lt (n := (s.size : Int)) (by omega) (by omega))
  refine Ev.bind (ref_PutNum_ev l _ (by omega) (by omega) (by omega)) (Ev.pos (by rw [List.length_append]; omega) ?_)
  rw [List.append_assoc]; exact Ev.now _
def cats : List ByteArray → List Int
  | [] => []
  | s :: r => cat s ++ cats r
theorem cats_append (a b : List ByteArray) : cats (a ++ b) = cats a ++ cats b := by
  induction a with
  | nil => rfl
  | cons s r ih => simp [cats, ih]
theorem cats_byt (l : List ByteArray) : Byt (cats l) := by
  induction l with
  | nil => exact Byt.nil
  | cons s r ih => exact (cat_byt s).append ih
def total : List ByteArray → Nat
  | [] => 0
  | s :: r => 10 + s.size + total r
theorem cat_le (s : ByteArray) (hs : s.size ≤ 35184372088832) : (cat s).length ≤ 10 + s.size := by
  rw [cat_len]
  have e1 := enc_len10 (code_lt (n := (s.size : Int)) (by omega) (by omega))
  omega
theorem rdOf_at {α : Type} (d : α) (l : List α) (i : Nat) (h : i < l.length) : rdOf d l (i : Int) = l[i] := by simp [rdOf, List.getD_eq_getElem?_getD, List.getElem?_eq_getElem h]
theorem drop_get {α : Type} (d : α) (l : List α) (i : Nat) (h : i < l.length) : l.drop i = rdOf d l (i : Int) :: l.drop (i + 1) := by rw [rdOf_at d l i h]; exact List.drop_eq_getElem_cons h
def Short (b : Nat) (l : List ByteArray) : Prop := ∀ s ∈ l, s.size ≤ b
theorem Short.drop {b : Nat} {l : List ByteArray} (h : Short b l) (n : Nat) : Short b (l.drop n) := fun s hs => h s (List.mem_of_mem_drop hs)
theorem Short.at_ {b : Nat} {l : List ByteArray} (h : Short b l) (d : ByteArray) {i : Nat} (hi : i < l.length) : (rdOf d l (i : Int)).size ≤ b := by rw [rdOf_at d l i hi]; exact h _ (List.getElem_mem hi)
/-! ### reading texts -/
def cut (b : List Int) (q n : Int) : List Int := (b.take (q + n).toNat).drop q.toNat
def E0 : ByteArray := ⟨#[]⟩
def rText (b : List Int) (p lim : Int) : ByteArray × Int × Int :=
  if (rNum b p).2.2 = 0 then
    if (rNum b p).1 < 0 then (E0, 0, 2) else if (rNum b p).1 > lim then (E0, 0, 5) else if (rNum b p).1 > (b.length : Int) - (rNum b p).2.1 then (E0, 0, 3)
    else (strOfNums (cut b (rNum b p).2.1 (rNum b p).1), (rNum b p).2.1 + (rNum b p).1, 0)
  else (E0, 0, (rNum b p).2.2)
theorem rNum_split {b : List Int} {p : Int} (hb : Byt b) (h : (rNum b p).2.2 = 0) : 0 ≤ p ∧ p < (rNum b p).2.1 ∧ (rNum b p).2.1 ≤ (b.length : Int) ∧ -9223372036854775808 ≤ (rNum b p).1 ∧ (rNum b p).1 ≤ 9223372036854775807 := by
  have h2 := rNum_ok (n := (rNum b p).1) (q := (rNum b p).2.1) hb (by rw [← h])
  exact ⟨h2.1, h2.2.1, h2.2.2.1, h2.2.2.2.1, h2.2.2.2.2.1⟩
theorem pack_Text_ev (b : List Int) (hb : Byt b) (hlen : b.length ≤ 4611686018427387904) (p lim : Int) : Ev (fun k => pack_Text.f k b p lim) (rText b p lim) := by
  unfold pack_Text.f rText
  refine Ev.bind (pack_Num_ev b hb hlen p) ?_
  by_cases h : (rNum b p).2.2 = 0
  · obtain ⟨g1, g2, g3, g4, g5⟩ := rNum_split hb h
    rw [wrap64_in (n := (b.length : Int) - (rNum b p).2.1) (by omega) (by omega)]
    simp only [if_pos h]
    by_cases h1 : (rNum b p).1 < 0
    · simp only [if_pos h1]; exact Ev.now _
    · simp only [if_neg h1]
      by_cases h2 : (rNum b p).1 > lim
      · simp only [if_pos h2]; exact Ev.now _
      · simp only [if_neg h2]
        by_cases h3 : (rNum b p).1 > (b.length : Int) - (rNum b p).2.1
        · simp only [if_pos h3]; exact Ev.now _
        · rw [wrap64_in (n := (rNum b p).2.1 + (rNum b p).1) (by omega) (by omega)]
          simp only [if_neg h3]
          exact Ev.pos (by omega) (Ev.pos (by omega) (Ev.pos (by omega) (Ev.now _)))
  · simp only [if_neg h]
    exact Ev.now _
def rCount (b : List Int) (p lim : Int) : Int × Int × Int :=
  if (rNum b p).2.2 = 0 then if (rNum b p).1 < 0 then (0, 0, 2) else if (rNum b p).1 > lim then (0, 0, 5) else ((rNum b p).1, (rNum b p).2.1, 0) else (0, 0, (rNum b p).2.2)
theorem ref_Count_ev (b : List Int) (hb : Byt b) (hlen : b.length ≤ 4611686018427387904) (p lim : Int) : Ev (fun k => brokerref03_Count.f k b p lim) (rCount b p lim) := by
  unfold brokerref03_Count.f rCount
  refine Ev.bind (ref_Num_ev b hb hlen p) ?_
  by_cases h : (rNum b p).2.2 = 0
  · simp only [if_pos h]
    by_cases h1 : (rNum b p).1 < 0
    · simp only [if_pos h1]; exact Ev.now _
    · simp only [if_neg h1]
      by_cases h2 : (rNum b p).1 > lim
      · simp only [if_pos h2]; exact Ev.now _
      · simp only [if_neg h2]; exact Ev.now _
  · simp only [if_neg h]; exact Ev.now _
theorem ref_Text_ev (b : List Int) (hb : Byt b) (hlen : b.length ≤ 4611686018427387904) (p lim : Int) : Ev (fun k => brokerref03_Text.f k b p lim) (rText b p lim) := by
  unfold brokerref03_Text.f rText
  refine Ev.bind (ref_Count_ev b hb hlen p lim) ?_
  unfold rCount
  by_cases h : (rNum b p).2.2 = 0
  · obtain ⟨g1, g2, g3, g4, g5⟩ := rNum_split hb h
    simp only [if_pos h]
    by_cases h1 : (rNum b p).1 < 0
    · simp only [if_pos h1]; exact Ev.neg (by simp) (Ev.now _)
    · simp only [if_neg h1]
      by_cases h2 : (rNum b p).1 > lim
      · simp only [if_pos h2]; exact Ev.neg (by simp) (Ev.now _)
      · simp only [if_neg h2, if_true]
        rw [wrap64_in (n := (b.length : Int) - (rNum b p).2.1) (by omega) (by omega)]
        by_cases h3 : (rNum b p).1 > (b.length : Int) - (rNum b p).2.1
        · simp only [if_pos h3]; exact Ev.now _
        · rw [wrap64_in (n := (rNum b p).2.1 + (rNum b p).1) (by omega) (by omega)]
          simp only [if_neg h3]
          exact Ev.pos (by omega) (Ev.pos (by omega) (Ev.pos (by omega) (Ev.now _)))
  · simp only [if_neg h]
    exact Ev.now _
theorem rText_ok {b : List Int} {p lim q : Int} {s : ByteArray} (hb : Byt b) (h : rText b p lim = (s, q, 0)) :
    0 ≤ p ∧ p < q ∧ q ≤ (b.length : Int) ∧ (s.size : Int) ≤ lim ∧ q = p + ((cat s).length : Int) ∧ (b.drop p.toNat).take (cat s).length = cat s := by
  unfold rText at h
  by_cases h0 : (rNum b p).2.2 = 0
  · rw [if_pos h0] at h
    by_cases h1 : (rNum b p).1 < 0
    · rw [if_pos h1] at h; simp at h
    · rw [if_neg h1] at h
      by_cases h2 : (rNum b p).1 > lim
      · rw [if_pos h2] at h; simp at h
      · rw [if_neg h2] at h
        by_cases h3 : (rNum b p).1 > (b.length : Int) - (rNum b p).2.1
        · rw [if_pos h3] at h; simp at h
        · rw [if_neg h3] at h
          simp only [Prod.mk.injEq, and_true] at h
          obtain ⟨rfl, rfl⟩ := h
          obtain ⟨g1, g2, g3, g4, g5, g6, g7⟩ := rNum_ok (n := (rNum b p).1) (q := (rNum b p).2.1) hb (by rw [← h0])
          generalize (rNum b p).1 = n at *
          generalize (rNum b p).2.1 = q at *
          have hcl : (cut b q n).length = n.toNat := by unfold cut; rw [List.length_drop, List.length_take]; omega
          have hsz : (strOfNums (cut b q n)).size = n.toNat := by rw [strOfNums_size, hcl]
          have hcat : cat (strOfNums (cut b q n)) = enc (code n) ++ cut b q n := by
            unfold cat
            rw [hsz, bytes_str (l := cut b q n) ((hb.take _).drop _), show ((n.toNat : Nat) : Int) = n from by omega]
          have hlen : (cat (strOfNums (cut b q n))).length = (enc (code n)).length + n.toNat := by rw [hcat, List.length_append, hcl]
          refine ⟨g1, by omega, by omega, by rw [hsz]; omega, by rw [hlen]; omega, ?_⟩
          rw [hlen, hcat, List.take_add, g7]
          congr 1
          rw [List.drop_drop]
          unfold cut
          rw [List.drop_take]
          congr 1
          · omega
          · congr 1; omega
  · rw [if_neg h0] at h
    simp only [Prod.mk.injEq] at h
    exact absurd h.2.2 h0
theorem rText_at (l : List Int) (s : ByteArray) (r : List Int) (lim : Int) (hs : (s.size : Int) ≤ lim) (hsz : s.size ≤ 35184372088832) : rText (l ++ (cat s ++ r)) (l.length : Int) lim = (s, (l.length : Int) + ((cat s).length : Int), 0) := by
  have e : l ++ (cat s ++ r) = l ++ (enc (code (s.size : Int)) ++ (bytesOf s ++ r)) := by unfold cat; rw [List.append_assoc]
  unfold rText
  rw [e, rNum_at l (s.size : Int) (bytesOf s ++ r) (by omega) (by omega)]
  dsimp only
  have hb := bytesOf_length s
  rw [if_pos rfl, if_neg (by omega), if_neg (by omega), if_neg (by simp only [List.length_append]; omega)]
  have hc : cut (l ++ (enc (code (s.size : Int)) ++ (bytesOf s ++ r))) ((l.length : Int) + ((enc (code (s.size : Int))).length : Int)) (s.size : Int) = bytesOf s := by
    unfold cut
    rw [show ((l.length : Int) + ((enc (code (s.size : Int))).length : Int) + (s.size : Int)).toNat = l.length + ((enc (code (s.size : Int))).length + s.size) from by omega, show ((l.length : Int) + ((enc (code (s.size : Int))).length : Int)).toNat = l.length + (enc (code (s.size : Int))).length from by omega]
    rw [List.take_append, List.drop_append, List.take_of_length_le (by omega), List.drop_of_length_le (by omega), List.nil_append, Nat.add_sub_cancel_left, Nat.add_sub_cancel_left]
    rw [List.take_append, List.drop_append, List.take_of_length_le (by omega), List.drop_of_length_le (by omega), List.nil_append, Nat.add_sub_cancel_left, Nat.sub_self, List.drop_zero, ← hb, List.take_left]
  rw [hc, str_bytes, cat_len]
  simp only [Prod.mk.injEq, true_and, and_true]
  push_cast; omega
theorem rText_torn (s : ByteArray) (m : Nat) (lim : Int) (hs : (s.size : Int) ≤ lim) (hsz : s.size ≤ 35184372088832) (hm : m < (cat s).length) : rText ((cat s).take m) 0 lim = (E0, 0, 3) := by
  rw [cat_len] at hm
  by_cases h : m < (enc (code (s.size : Int))).length
  · have e : (cat s).take m = (enc (code (s.size : Int))).take m := by unfold cat; rw [List.take_append_of_le_length (by omega)]
    unfold rText
    rw [e, rNum_torn (s.size : Int) m (by omega) (by omega) h]
    rfl
  · have e : (cat s).take m = [] ++ (enc (code (s.size : Int)) ++ (bytesOf s).take (m - (enc (code (s.size : Int))).length)) := by unfold cat; rw [List.take_append, List.take_of_length_le (by omega)]; rfl
    have h2 := rNum_at [] (s.size : Int) ((bytesOf s).take (m - (enc (code (s.size : Int))).length)) (by omega) (by omega)
    unfold rText
    rw [e]
    simp only [List.length_nil] at h2
    rw [show ((0 : Nat) : Int) = 0 from rfl] at h2
    rw [h2]
    dsimp only
    have hb := bytesOf_length s
    rw [if_pos rfl, if_neg (by omega), if_neg (by omega), if_pos (by simp only [List.length_append, List.length_take, List.length_nil]; omega)]
end Go.Proofs.Ytkkelbakadbbhaa.Sp
/- What the functions of package frame, and of its reference, compute: checksums, frames, reading a frame. -/
set_option linter.unusedVariables false
set_option linter.unusedSimpArgs false
namespace Go.Proofs.Ytkkelbakadbbhaa.Sp
open Go.RowKit Go.Proofs.YtkkelbakadbbhaaW.PrintWords Go.Proofs.YtkkelbakadbbhaaW.PrintLast Go.Proofs.YtkkelbakadbbhaaW.PrintMore Go.Proofs.Ytkkelbakadbbhaa.J

def stp (s x : Nat) : Nat := ((s ^^^ x) * 16777619) % 4294967296
def fnv : Nat → List Int → Nat
  | s, [] => s
  | s, x :: r => fnv (stp s x.toNat) r
def sum (l : List Int) : Nat := fnv 2166136261 l
theorem stp_lt (s x : Nat) : stp s x < 4294967296 := Nat.mod_lt _ (by decide)
theorem fnv_lt : ∀ (l : List Int) (s : Nat), s < 4294967296 → fnv s l < 4294967296
  | [], s, h => h
  | x :: r, s, h => fnv_lt r _ (stp_lt _ _)
theorem sum_lt (l : List Int) : sum l < 4294967296 := fnv_lt l _ (by decide)
theorem fnv_append : ∀ (a b : List Int) (s : Nat), fnv s (a ++ b) = fnv (fnv s a) b
  | [], b, s => rfl
  | x :: a, b, s => fnv_append a b _
theorem xor_lt {s x : Nat} (hs : s < 4294967296) (hx : x < 4294967296) : s ^^^ x < 4294967296 := Nat.xor_lt_two_pow (n := 32) hs hx
theorem frame_step {s x : Nat} (hs : s < 4294967296) (hx : x ≤ 255) : (Go.bits .xor .u32 (s : Int) ((x : Int) % 4294967296) * 16777619) % 4294967296 = ((stp s x : Nat) : Int) := by
  have e : (x : Int) % 4294967296 = (x : Int) := by omega
  rw [e, bits_xor_nat .u32 32 (by decide) wraps_u32 s x (by omega) (by omega)]
  unfold stp
  generalize s ^^^ x = y
  omega
theorem frame_Sum_l0 (b : List Int) (hb : Byt b) (hlen : b.length ≤ 4611686018427387904) : ∀ (d i s : Nat), i + d = b.length → s < 4294967296 → Ev (fun k => frame_Sum.l0 k (s : Int) b (b.length : Int) (i : Int)) ((fnv s (b.drop i) : Nat) : Int) := by
  intro d
  induction d with
  | zero =>
    intro i s hi hs
    refine Ev.step (f := fun _ => some (s : Int)) (fun k => ?_) ?_
    · simp only [frame_Sum.l0]; rw [if_neg (by omega), wrap64_in (by omega) (by omega)]
    · rw [List.drop_of_length_le (by omega)]; exact Ev.now _
  | succ d ih =>
    intro i s hi hs
    have hx := rd_byt hb (q := i) (by omega)
    obtain ⟨x, hxe⟩ := Int.eq_ofNat_of_zero_le hx.1
    have h2 := ih (i + 1) (stp s x) (by omega) (stp_lt _ _)
    rw [drop_rd (by omega), hxe]
    refine Ev.step (fun k => ?_) h2
    simp only [frame_Sum.l0]
    rw [if_pos (by omega), if_pos (by omega), if_pos (by omega), hxe, frame_step hs (by omega), wrap64_in (by omega) (by omega)]
    rfl
theorem frame_Sum_ev (b : List Int) (hb : Byt b) (hlen : b.length ≤ 4611686018427387904) : Ev (fun k => frame_Sum.f k b) ((sum b : Nat) : Int) := by
  unfold frame_Sum.f
  exact frame_Sum_l0 b hb hlen b.length 0 2166136261 (by omega) (by decide)
theorem ref4_step {s x : Nat} (hs : s < 4294967296) (hx : x ≤ 255) : Int.tmod (IntKind.u64.wrap (Go.bits .xor .u64 (s : Int) (IntKind.u64.wrap (x : Int)) * 16777619)) 4294967296 = ((stp s x : Nat) : Int) := by
  have h := xor_lt hs (x := x) (by omega)
  rw [u64w (n := (x : Int)) (by omega) (by omega), bits_xor_nat .u64 64 (by decide) wraps_u64 s x (by omega) (by omega), u64w (by omega) (by omega), tmod_nn (by omega)]
  unfold stp
  generalize s ^^^ x = y at *
  omega
theorem ref4_Sum_l0 (b : List Int) (hb : Byt b) (hlen : b.length ≤ 4611686018427387904) : ∀ (d i s : Nat), i + d = b.length → s < 4294967296 → Ev (fun k => brokerref04_Sum.l0 k b (s : Int) (i : Int)) ((fnv s (b.drop i) : Nat) : Int) := by
  intro d
  induction d with
  | zero =>
    intro i s hi hs
    refine Ev.step (f := fun _ => some (s : Int)) (fun k => ?_) ?_
    · simp only [brokerref04_Sum.l0]; rw [if_neg (by omega), wrap64_in (by omega) (by omega)]
    · rw [List.drop_of_length_le (by omega)]; exact Ev.now _
  | succ d ih =>
    intro i s hi hs
    have hx := rd_byt hb (q := i) (by omega)
    obtain ⟨x, hxe⟩ := Int.eq_ofNat_of_zero_le hx.1
    have h2 := ih (i + 1) (stp s x) (by omega) (stp_lt _ _)
    rw [drop_rd (by omega), hxe]
    refine Ev.step (fun k => ?_) h2
    simp only [brokerref04_Sum.l0]
    rw [if_pos (by omega), if_pos (by omega), hxe, ref4_step hs (by omega), wrap64_in (by omega) (by omega)]
    rfl
theorem ref4_Sum_ev (b : List Int) (hb : Byt b) (hlen : b.length ≤ 4611686018427387904) : Ev (fun k => brokerref04_Sum.f k b) ((sum b : Nat) : Int) := by
  unfold brokerref04_Sum.f
  exact ref4_Sum_l0 b hb hlen b.length 0 2166136261 (by omega) (by decide)

/-! ### frames -/
def be4 (s : Nat) : List Int := [((s / 16777216 % 256 : Nat) : Int), ((s / 65536 % 256 : Nat) : Int), ((s / 256 % 256 : Nat) : Int), ((s % 256 : Nat) : Int)]
theorem be4_byt (s : Nat) : Byt (be4 s) := by
  unfold be4
  exact Byt.cons (by omega) (by omega) (Byt.cons (by omega) (by omega) (Byt.cons (by omega) (by omega) (Byt.cons (by omega) (by omega) Byt.nil)))
def wrapF (b : List Int) : List Int := enc (code (b.length : Int)) ++ (be4 (sum b) ++ b)
theorem wrapF_byt {b : List Int} (hb : Byt b) : Byt (wrapF b) := (enc_byt _).append ((be4_byt _).append hb)
theorem wrapF_len (b : List Int) : (wrapF b).length = (enc (code (b.length : Int))).length + 4 + b.length := by
  unfold wrapF; simp only [List.length_append]; simp [be4]; omega
theorem be4_impl {s : Nat} (h : s < 4294967296) : [((s : Int) / 16777216) % 256, ((s : Int) / 65536) % 256, ((s : Int) / 256) % 256, (s : Int) % 256] = be4 s := by
  unfold be4; simp only [List.cons.injEq, and_true]; omega
theorem be4_ref {s : Nat} (h : s < 4294967296) : [((s : Int) / 16777216) % 256, (Go.bits .and .i64 ((s : Int) / 65536) 255) % 256, (Go.bits .and .i64 ((s : Int) / 256) 255) % 256, (Go.bits .and .i64 (s : Int) 255) % 256] = be4 s := by
  rw [i64_and255 _ (by omega) (by omega), i64_and255 _ (by omega) (by omega), i64_and255 _ (by omega) (by omega)]
  unfold be4; simp only [List.cons.injEq, and_true]; omega
theorem frame_Wrap_ev (b : List Int) (hb : Byt b) (hlen : b.length ≤ 65536) : Ev (fun k => frame_Wrap.f k b) (wrapF b) := by
  unfold frame_Wrap.f
  have e1 := enc_len10 (code_lt (n := (b.length : Int)) (by omega) (by omega))
  refine Ev.neg (by omega) (Ev.bind (frame_Sum_ev b hb (by omega)) (Ev.bind (pack_PutNum_ev [] _ (by omega) (by omega) (by simp)) ?_))
  rw [be4_impl (sum_lt b)]
  refine Ev.get rfl (Ev.pos ?_ (Ev.get rfl (Ev.pos ?_ ?_)))
  · simp [be4]; omega
  · simp [be4]; omega
  · rw [List.nil_append, List.append_assoc]; exact Ev.now _
theorem ref4_Wrap_ev (b : List Int) (hb : Byt b) (hlen : b.length ≤ 65536) : Ev (fun k => brokerref04_Wrap.f k b) (wrapF b) := by
  unfold brokerref04_Wrap.f
  have e1 := enc_len10 (code_lt (n := (b.length : Int)) (by omega) (by omega))
  refine Ev.neg (by omega) (Ev.bind (ref4_Sum_ev b hb (by omega)) (Ev.bind (ref_PutNum_ev [] _ (by omega) (by omega) (by simp)) ?_))
  rw [be4_ref (sum_lt b)]
  refine Ev.get rfl (Ev.pos ?_ (Ev.get rfl (Ev.pos ?_ ?_)))
  · simp [be4]; omega
  · simp [be4]; omega
  · rw [List.nil_append, List.append_assoc]; exact Ev.now _
def sizeF (n : Int) : Int := if n < 0 ∨ n > 65536 then 0 else ((enc (code n)).length : Int) + 4 + n
theorem sizeF_len (b : List Int) (h : b.length ≤ 65536) : sizeF (b.length : Int) = ((wrapF b).length : Int) := by
  unfold sizeF; rw [if_neg (by omega), wrapF_len]; omega

/-! ### reading a frame -/
def pay (b : List Int) (q n : Int) : List Int := cut b (q + 4) n
def rNext (b : List Int) (p : Int) : List Int × Int × Int :=
  if (rNum b p).2.2 = 0 then
    if (rNum b p).1 < 0 then ([], 0, 2) else if (rNum b p).1 > 65536 then ([], 0, 5) else if (b.length : Int) - (rNum b p).2.1 < 4 + (rNum b p).1 then ([], 0, 3)
    else if cut b (rNum b p).2.1 4 = be4 (sum (pay b (rNum b p).2.1 (rNum b p).1)) then (pay b (rNum b p).2.1 (rNum b p).1, (rNum b p).2.1 + 4 + (rNum b p).1, 0) else ([], 0, 4)
  else ([], 0, (rNum b p).2.2)
theorem cut_length {b : List Int} {q n : Int} (h0 : 0 ≤ q) (h1 : 0 ≤ n) (h2 : q + n ≤ (b.length : Int)) : (cut b q n).length = n.toNat := by
  unfold cut; rw [List.length_drop, List.length_take]; omega
theorem cut_byt {b : List Int} (hb : Byt b) (q n : Int) : Byt (cut b q n) := (hb.take _).drop _
theorem be4_iff {c : List Int} (hc : Byt c) (hl : c.length = 4) {s : Nat} (hs : s < 4294967296) :
    (Go.bits .or .i64 (Go.bits .or .i64 (Go.bits .or .i64 (wrap64 ((wrap64 (rd c 0)) * 16777216)) (wrap64 ((wrap64 (rd c 1)) * 65536))) (wrap64 ((wrap64 (rd c 2)) * 256))) (wrap64 (rd c 3))) = (s : Int) ↔ c = be4 s := by
  match c, hl with
  | [a, b, d, e], _ =>
    have ha := hc a (by simp)
    have hb := hc b (by simp)
    have hd := hc d (by simp)
    have he := hc e (by simp)
    have r0 : rd [a, b, d, e] 0 = a := rfl
    have r1 : rd [a, b, d, e] 1 = b := rfl
    have r2 : rd [a, b, d, e] 2 = d := rfl
    have r3 : rd [a, b, d, e] 3 = e := rfl
    rw [r0, r1, r2, r3, wrap64_in (n := a) (by omega) (by omega), wrap64_in (n := b) (by omega) (by omega), wrap64_in (n := d) (by omega) (by omega), wrap64_in (n := e) (by omega) (by omega)]
    rw [wrap64_in (n := a * 16777216) (by omega) (by omega), wrap64_in (n := b * 65536) (by omega) (by omega), wrap64_in (n := d * 256) (by omega) (by omega)]
    rw [i64_or_join 24 (a * 16777216) (b * 65536) (by omega) (by omega) (by omega) (by omega) (by omega) (by omega), i64_or_join 16 (a * 16777216 + b * 65536) (d * 256) (by omega) (by omega) (by omega) (by omega) (by omega) (by omega), i64_or_join 8 (a * 16777216 + b * 65536 + d * 256) e (by omega) (by omega) (by omega) (by omega) (by omega) (by omega)]
    unfold be4
    simp only [List.cons.injEq, and_true]
    omega
theorem frame_Next_ev (b : List Int) (hb : Byt b) (hlen : b.length ≤ 4611686018427387) (p : Int) : Ev (fun k => frame_Next.f k b p) (rNext b p) := by
  unfold frame_Next.f rNext
  refine Ev.bind (pack_Num_ev b hb (by omega) p) ?_
  by_cases h : (rNum b p).2.2 = 0
  · obtain ⟨g1, g2, g3, g4, g5⟩ := rNum_split hb h
    simp only [if_pos h]
    by_cases h1 : (rNum b p).1 < 0
    · simp only [if_pos h1]; exact Ev.now _
    · simp only [if_neg h1]
      by_cases h2 : (rNum b p).1 > 65536
      · simp only [if_pos h2]; exact Ev.now _
      · simp only [if_neg h2]
        generalize (rNum b p).1 = n at *
        generalize (rNum b p).2.1 = q at *
        rw [wrap64_in (n := (b.length : Int) - q) (by omega) (by omega), wrap64_in (n := 4 + n) (by omega) (by omega)]
        by_cases h3 : (b.length : Int) - q < 4 + n
        · simp only [if_pos h3]; exact Ev.now _
        · rw [wrap64_in (n := q + 4) (by omega) (by omega), wrap64_in (n := q + 4 + n) (by omega) (by omega)]
          simp only [if_neg h3]
          have hp : (b.take (q + 4 + n : Int).toNat).drop (q + 4 : Int).toNat = pay b q n := rfl
          have hc : (b.take (q + 4 : Int).toNat).drop (q : Int).toNat = cut b q 4 := rfl
          have hl := cut_length (b := b) (q := q) (n := 4) (by omega) (by omega) (by omega)
          have hl2 : (pay b q n).length = n.toNat := cut_length (by omega) (by omega) (by omega)
          have hl4 : ((cut b q 4).length : Int) = 4 := by rw [hl]; rfl
          rw [hp, hc, hl4]
          refine Ev.pos (by omega) (Ev.pos (by omega) (Ev.pos (by omega) (Ev.get rfl (Ev.pos (by omega) (Ev.pos (by omega) (Ev.pos (by omega) (Ev.pos (by rw [hl2]; simp; omega) (Ev.get rfl (Ev.pos (by omega) (Ev.pos (by omega) (Ev.pos (by omega) (Ev.pos (by omega) ?_))))))))))))
          rw [List.nil_append]
          refine Ev.bind (frame_Sum_ev _ (cut_byt hb _ _) (by rw [hl2]; omega)) ?_
          have hiff := be4_iff (cut_byt hb q 4) hl (sum_lt (pay b q n))
          by_cases h4 : cut b q 4 = be4 (sum (pay b q n))
          · rw [if_pos h4]; exact Ev.pos (hiff.2 h4) (Ev.now _)
          · rw [if_neg h4]; exact Ev.neg (fun he => h4 (hiff.1 he)) (Ev.now _)
  · simp only [if_neg h]; exact Ev.now _
theorem cut_split {b : List Int} {p q n : Int} (h0 : 0 ≤ p) (h1 : p ≤ q) (h2 : 0 ≤ n) : cut b p (q - p + n) = cut b p (q - p) ++ cut b q n := by
  unfold cut
  rw [show (p + (q - p + n)).toNat = q.toNat + n.toNat from by omega, show (p + (q - p)).toNat = q.toNat from by omega, show (q + n).toNat = q.toNat + n.toNat from by omega]
  by_cases h : q.toNat ≤ b.length
  · rw [List.take_add, List.drop_append, List.length_take, List.drop_append]
    rw [show p.toNat - min q.toNat b.length = 0 from by omega]
    rw [List.drop_zero]
    congr 1
    rw [List.drop_of_length_le (l := List.take q.toNat b) (by rw [List.length_take]; omega), List.nil_append, List.length_take, show q.toNat - min q.toNat b.length = 0 from by omega, List.drop_zero]
  · rw [List.take_of_length_le (i := q.toNat) (by omega), List.take_of_length_le (by omega), List.drop_of_length_le (i := q.toNat) (by omega), List.append_nil]
theorem ref4_Next_ev (b : List Int) (hb : Byt b) (hlen : b.length ≤ 4611686018427387) (p : Int) : Ev (fun k => brokerref04_Next.f k b p) (rNext b p) := by
  unfold brokerref04_Next.f rNext
  refine Ev.bind (ref_Count_ev b hb (by omega) p 65536) ?_
  unfold rCount
  by_cases h : (rNum b p).2.2 = 0
  · obtain ⟨g1, g2, g3, g4, g5, g6, g7⟩ := rNum_ok (n := (rNum b p).1) (q := (rNum b p).2.1) hb (by rw [← h])
    simp only [if_pos h]
    by_cases h1 : (rNum b p).1 < 0
    · simp only [if_pos h1]; exact Ev.neg (by simp) (Ev.now _)
    · simp only [if_neg h1]
      by_cases h2 : (rNum b p).1 > 65536
      · simp only [if_pos h2]; exact Ev.neg (by simp) (Ev.now _)
      · simp only [if_neg h2, if_true]
        generalize (rNum b p).1 = n at *
        generalize (rNum b p).2.1 = q at *
        rw [wrap64_in (n := (b.length : Int) - q) (by omega) (by omega), wrap64_in (n := 4 + n) (by omega) (by omega)]
        by_cases h3 : (b.length : Int) - q < 4 + n
        · simp only [if_pos h3]; exact Ev.now _
        · rw [wrap64_in (n := q + 4) (by omega) (by omega), wrap64_in (n := q + 4 + n) (by omega) (by omega)]
          simp only [if_neg h3]
          have hp : (b.take (q + 4 + n : Int).toNat).drop (q + 4 : Int).toNat = pay b q n := rfl
          have hl := cut_length (b := b) (q := q) (n := 4) (by omega) (by omega) (by omega)
          have hl2 : (pay b q n).length = n.toNat := cut_length (by omega) (by omega) (by omega)
          rw [hp]
          refine Ev.get rfl (Ev.pos (by omega) (Ev.pos (by omega) (Ev.pos (by omega) (Ev.pos (by rw [hl2]; simp; omega) (Ev.get rfl ?_)))))
          rw [List.nil_append]
          refine Ev.bind (ref4_Wrap_ev _ (cut_byt hb _ _) (by rw [hl2]; omega)) (Ev.pos (by omega) (Ev.pos (by omega) ?_))
          have hw : (b.take (q + 4 + n : Int).toNat).drop p.toNat = enc (code n) ++ (cut b q 4 ++ pay b q n) := by
            have e0 : (b.take (q + 4 + n : Int).toNat).drop p.toNat = cut b p (q - p + (4 + n)) := by unfold cut; congr 2; omega
            have e1 : cut b p (q - p) = enc (code n) := by
              unfold cut
              rw [← g7, List.drop_take]; congr 1; omega
            have e2 : cut b q (4 + n) = cut b q 4 ++ pay b q n := by
              have := cut_split (b := b) (p := q) (q := q + 4) (n := n) (by omega) (by omega) (by omega)
              rw [show q + 4 - q = 4 from by omega] at this
              exact this
            rw [e0, cut_split (by omega) (by omega) (by omega), e1, e2]
          rw [hw]
          have hwf : wrapF (pay b q n) = enc (code n) ++ (be4 (sum (pay b q n)) ++ pay b q n) := by unfold wrapF; rw [hl2, show ((n.toNat : Nat) : Int) = n from by omega]
          have hbr : Byt (enc (code n) ++ (cut b q 4 ++ pay b q n)) := (enc_byt _).append ((cut_byt hb _ _).append (cut_byt hb _ _))
          by_cases h4 : cut b q 4 = be4 (sum (pay b q n))
          · rw [if_pos h4]
            exact Ev.pos (by rw [hwf, h4]) (Ev.now _)
          · rw [if_neg h4]
            refine Ev.neg (fun he => h4 ?_) (Ev.now _)
            have hq := str_inj (a := wrapF (pay b q n)) (wrapF_byt (cut_byt hb _ _)) hbr he
            rw [hwf] at hq
            have hq2 := List.append_cancel_left hq
            have hq3 := List.append_inj_left hq2 (by rw [hl]; rfl)
            exact hq3.symm
  · simp only [if_neg h]; exact Ev.now _
end Go.Proofs.Ytkkelbakadbbhaa.Sp
/- Plain laws of frames: what is read is what was written; what is torn or damaged is told. -/
set_option linter.unusedVariables false
set_option linter.unusedSimpArgs false
namespace Go.Proofs.Ytkkelbakadbbhaa.Sp
open Go.RowKit Go.Proofs.YtkkelbakadbbhaaW.PrintWords Go.Proofs.YtkkelbakadbbhaaW.PrintLast Go.Proofs.YtkkelbakadbbhaaW.PrintMore

theorem cut_mid (l c r : List Int) {q n : Int} (hq : q = (l.length : Int)) (hn : n = (c.length : Int)) : cut (l ++ (c ++ r)) q n = c := by
  subst hq; subst hn
  unfold cut
  rw [show ((l.length : Int) + (c.length : Int)).toNat = l.length + c.length from by omega, Int.toNat_natCast]
  rw [List.take_append, List.drop_append, List.take_of_length_le (by omega), List.drop_of_length_le (by omega), List.nil_append, Nat.add_sub_cancel_left, Nat.sub_self, List.drop_zero, List.take_left]
theorem be4_length (s : Nat) : (be4 s).length = 4 := rfl
/-- A frame, or what looks like one (any four bytes in the checksum's place), read at its place. -/
theorem rNext_at (l c p r : List Int) (hc : c.length = 4) (hp : p.length ≤ 65536) :
    rNext (l ++ (enc (code (p.length : Int)) ++ (c ++ (p ++ r)))) (l.length : Int) = if c = be4 (sum p) then (p, (l.length : Int) + ((enc (code (p.length : Int))).length : Int) + 4 + (p.length : Int), 0) else ([], 0, 4) := by
  have h1 := rNum_at l (p.length : Int) (c ++ (p ++ r)) (by omega) (by omega)
  unfold rNext
  rw [h1]
  dsimp only
  have e1 : l ++ (enc (code (p.length : Int)) ++ (c ++ (p ++ r))) = (l ++ enc (code (p.length : Int))) ++ (c ++ (p ++ r)) := by simp
  have e2 : l ++ (enc (code (p.length : Int)) ++ (c ++ (p ++ r))) = (l ++ enc (code (p.length : Int)) ++ c) ++ (p ++ r) := by simp
  have c1 : cut (l ++ (enc (code (p.length : Int)) ++ (c ++ (p ++ r)))) ((l.length : Int) + ((enc (code (p.length : Int))).length : Int)) 4 = c := by
    rw [e1]; exact cut_mid _ _ _ (by simp) (by rw [hc]; rfl)
  have c2 : pay (l ++ (enc (code (p.length : Int)) ++ (c ++ (p ++ r)))) ((l.length : Int) + ((enc (code (p.length : Int))).length : Int)) (p.length : Int) = p := by
    unfold pay
    rw [e2]; exact cut_mid _ _ _ (by simp [hc]; omega) rfl
  rw [c1, c2, if_pos rfl, if_neg (by omega), if_neg (by omega), if_neg (by simp only [List.length_append]; omega)]
theorem rNext_wrap (l p r : List Int) (hp : p.length ≤ 65536) : rNext (l ++ (wrapF p ++ r)) (l.length : Int) = (p, (l.length : Int) + ((wrapF p).length : Int), 0) := by
  have h := rNext_at l (be4 (sum p)) p r rfl hp
  rw [if_pos rfl] at h
  have e : l ++ (wrapF p ++ r) = l ++ (enc (code (p.length : Int)) ++ (be4 (sum p) ++ (p ++ r))) := by simp [wrapF]
  rw [e, h, wrapF_len]
  simp only [Prod.mk.injEq, true_and, and_true]
  omega
theorem rNext_ok {b : List Int} {p q : Int} {x : List Int} (hb : Byt b) (h : rNext b p = (x, q, 0)) :
    0 ≤ p ∧ p < q ∧ q ≤ (b.length : Int) ∧ x.length ≤ 65536 ∧ q = p + ((wrapF x).length : Int) ∧ (b.drop p.toNat).take (wrapF x).length = wrapF x ∧ Byt x := by
  unfold rNext at h
  by_cases h0 : (rNum b p).2.2 = 0
  · rw [if_pos h0] at h
    by_cases h1 : (rNum b p).1 < 0
    · rw [if_pos h1] at h; simp at h
    · rw [if_neg h1] at h
      by_cases h2 : (rNum b p).1 > 65536
      · rw [if_pos h2] at h; simp at h
      · rw [if_neg h2] at h
        by_cases h3 : (b.length : Int) - (rNum b p).2.1 < 4 + (rNum b p).1
        · rw [if_pos h3] at h; simp at h
        · rw [if_neg h3] at h
          by_cases h4 : cut b (rNum b p).2.1 4 = be4 (sum (pay b (rNum b p).2.1 (rNum b p).1))
          · rw [if_pos h4] at h
            simp only [Prod.mk.injEq, and_true] at h
            obtain ⟨rfl, rfl⟩ := h
            obtain ⟨g1, g2, g3, g4, g5, g6, g7⟩ := rNum_ok (n := (rNum b p).1) (q := (rNum b p).2.1) hb (by rw [← h0])
            generalize (rNum b p).1 = n at *
            generalize (rNum b p).2.1 = q at *
            have hl : (pay b q n).length = n.toNat := cut_length (by omega) (by omega) (by omega)
            have hw := wrapF_len (pay b q n)
            rw [hl, show ((n.toNat : Nat) : Int) = n from by omega] at hw
            refine ⟨g1, by omega, by omega, by omega, by omega, ?_, cut_byt hb _ _⟩
            have e0 : (b.drop p.toNat).take (wrapF (pay b q n)).length = cut b p (q - p + (4 + n)) := by
              unfold cut; rw [List.drop_take]; congr 1; omega
            have e1 : cut b p (q - p) = enc (code n) := by
              unfold cut
              rw [← g7, List.drop_take]; congr 1; omega
            have e2 : cut b q (4 + n) = cut b q 4 ++ pay b q n := by
              have := cut_split (b := b) (p := q) (q := q + 4) (n := n) (by omega) (by omega) (by omega)
              rw [show q + 4 - q = 4 from by omega] at this
              exact this
            rw [e0, cut_split (by omega) (by omega) (by omega), e1, e2, h4]
            unfold wrapF
            rw [hl, show ((n.toNat : Nat) : Int) = n from by omega]
          · rw [if_neg h4] at h; simp at h
  · rw [if_neg h0] at h
    simp only [Prod.mk.injEq] at h
    exact absurd h.2.2 h0
theorem rNext_zero {b : List Int} {p : Int} (h : (rNext b p).2.2 ≠ 0) : (rNext b p).1 = [] ∧ (rNext b p).2.1 = 0 := by
  unfold rNext at h ⊢
  by_cases h0 : (rNum b p).2.2 = 0
  · simp only [if_pos h0] at h ⊢
    by_cases h1 : (rNum b p).1 < 0
    · simp only [if_pos h1, and_self]
    · simp only [if_neg h1] at h ⊢
      by_cases h2 : (rNum b p).1 > 65536
      · simp only [if_pos h2, and_self]
      · simp only [if_neg h2] at h ⊢
        by_cases h3 : (b.length : Int) - (rNum b p).2.1 < 4 + (rNum b p).1
        · simp only [if_pos h3, and_self]
        · simp only [if_neg h3] at h ⊢
          by_cases h4 : cut b (rNum b p).2.1 4 = be4 (sum (pay b (rNum b p).2.1 (rNum b p).1))
          · simp only [if_pos h4] at h; exact absurd rfl h
          · simp only [if_neg h4, and_self]
  · simp only [if_neg h0, and_self]
/-- A frame that ends too early is torn. -/
theorem rNext_torn (l p : List Int) (m : Nat) (hp : p.length ≤ 65536) (hm : m < (wrapF p).length) : rNext (l ++ (wrapF p).take m) (l.length : Int) = ([], 0, 3) := by
  rw [wrapF_len] at hm
  unfold rNext
  by_cases h : m < (enc (code (p.length : Int))).length
  · have e : (wrapF p).take m = (enc (code (p.length : Int))).take m := by unfold wrapF; rw [List.take_append_of_le_length (by omega)]
    have h2 : rNum (l ++ (enc (code (p.length : Int))).take m) (l.length : Int) = (0, 0, 3) := by
      rw [rNum_in (by omega) (by rw [List.length_append]; omega), Int.toNat_natCast, List.drop_left]
      have := dec_torn (code (p.length : Int)) 0 0 m (by simpa using code_lt (n := (p.length : Int)) (by omega) (by omega)) (.inl rfl) h
      simp [this, fin]
    rw [e, h2]
    rfl
  · have e : (wrapF p).take m = enc (code (p.length : Int)) ++ (be4 (sum p) ++ p).take (m - (enc (code (p.length : Int))).length) := by unfold wrapF; rw [List.take_append, List.take_of_length_le (by omega)]
    rw [e, rNum_at l (p.length : Int) _ (by omega) (by omega)]
    dsimp only
    rw [if_pos rfl, if_neg (by omega), if_neg (by omega), if_pos (by simp only [List.length_append, List.length_take, be4_length]; omega)]

/-! ### damage -/
theorem mul_back {a : Nat} (ha : a < 4294967296) : a * 16777619 % 4294967296 * 899433627 % 4294967296 = a := by
  rw [Nat.mod_mul_mod, Nat.mul_assoc, show 16777619 * 899433627 = 1 + 4294967296 * 3513497 from by decide, Nat.mul_add, Nat.mul_one, Nat.mul_left_comm, Nat.add_mul_mod_self_left, Nat.mod_eq_of_lt ha]
theorem mul_inj {a b : Nat} (ha : a < 4294967296) (hb : b < 4294967296) (h : a * 16777619 % 4294967296 = b * 16777619 % 4294967296) : a = b := by
  rw [← mul_back ha, h, mul_back hb]
theorem xor_inj_left {s t x : Nat} (h : s ^^^ x = t ^^^ x) : s = t := by
  have : s ^^^ x ^^^ x = t ^^^ x ^^^ x := by rw [h]
  rwa [Nat.xor_assoc, Nat.xor_self, Nat.xor_zero, Nat.xor_assoc, Nat.xor_self, Nat.xor_zero] at this
theorem xor_inj_right {s x y : Nat} (h : s ^^^ x = s ^^^ y) : x = y := by
  rw [Nat.xor_comm s x, Nat.xor_comm s y] at h; exact xor_inj_left h
theorem stp_inj_left {s t x : Nat} (hs : s < 4294967296) (ht : t < 4294967296) (hx : x < 4294967296) (h : stp s x = stp t x) : s = t := xor_inj_left (mul_inj (xor_lt hs hx) (xor_lt ht hx) h)
theorem stp_inj_right {s x y : Nat} (hs : s < 4294967296) (hx : x < 4294967296) (hy : y < 4294967296) (h : stp s x = stp s y) : x = y := xor_inj_right (mul_inj (xor_lt hs hx) (xor_lt hs hy) h)
theorem fnv_inj : ∀ (l : List Int) (s t : Nat), Byt l → s < 4294967296 → t < 4294967296 → fnv s l = fnv t l → s = t
  | [], s, t, _, _, _, h => h
  | x :: r, s, t, hb, hs, ht, h => by
    have hx := hb x (by simp)
    have h2 := fnv_inj r _ _ (fun y hy => hb y (List.mem_cons_of_mem _ hy)) (stp_lt _ _) (stp_lt _ _) h
    exact stp_inj_left hs ht (by omega) h2
theorem sum_set {p : List Int} (hb : Byt p) {i : Nat} (hi : i < p.length) {y : Int} (h0 : 0 ≤ y) (h1 : y ≤ 255) (hne : y ≠ p[i]) : sum (p.set i y) ≠ sum p := by
  intro h
  have e1 : p.set i y = p.take i ++ y :: p.drop (i + 1) := List.set_eq_take_append_cons_drop .. |>.trans (by rw [if_pos hi])
  have e2 : p = p.take i ++ p[i] :: p.drop (i + 1) := by rw [List.getElem_cons_drop, List.take_append_drop]
  have hx := hb p[i] (List.getElem_mem hi)
  unfold sum at h
  rw [e1] at h
  have h2 : fnv 2166136261 p = fnv 2166136261 (p.take i ++ p[i] :: p.drop (i + 1)) := by rw [← e2]
  rw [h2, fnv_append, fnv_append] at h
  have hs := fnv_lt (p.take i) 2166136261 (by decide)
  generalize fnv 2166136261 (p.take i) = s at *
  have h3 := fnv_inj (p.drop (i + 1)) _ _ (hb.drop _) (stp_lt _ _) (stp_lt _ _) h
  have h4 := stp_inj_right hs (by omega) (by omega) h3
  omega
theorem be4_inj {s t : Nat} (hs : s < 4294967296) (ht : t < 4294967296) (h : be4 s = be4 t) : s = t := by
  unfold be4 at h
  simp only [List.cons.injEq, and_true] at h
  omega
/-- One byte of the checksum or of the payload is another one: the checksum tells. -/
theorem rNext_damaged (p : List Int) (hb : Byt p) (hp : p.length ≤ 65536) (i : Nat) (hi0 : (enc (code (p.length : Int))).length ≤ i) (hi : i < (wrapF p).length) (y : Int) (h0 : 0 ≤ y) (h1 : y ≤ 255) (hne : y ≠ (wrapF p)[i]) (r : List Int) :
    rNext ((wrapF p).set i y ++ r) 0 = ([], 0, 4) := by
  have hw := wrapF_len p
  generalize hE : (enc (code (p.length : Int))).length = E at *
  by_cases h : i < E + 4
  · have e : (wrapF p).set i y ++ r = [] ++ (enc (code (p.length : Int)) ++ ((be4 (sum p)).set (i - E) y ++ (p ++ r))) := by
      unfold wrapF
      rw [List.set_append_right _ _ (by omega), hE, List.set_append_left _ _ (by rw [be4_length]; omega)]
      simp
    rw [e]
    have h2 := rNext_at [] ((be4 (sum p)).set (i - E) y) p r (by rw [List.length_set]; rfl) hp
    rw [if_neg] at h2
    · exact h2
    · intro he
      have h3 : (be4 (sum p))[i - E]? = some y := by
        rw [← he, List.getElem?_set_self (by rw [be4_length]; omega)]
      apply hne
      have h4 : (wrapF p)[i]? = some y := by
        unfold wrapF
        rw [List.getElem?_append_right (by omega), hE, List.getElem?_append_left (by rw [be4_length]; omega), h3]
      rw [List.getElem?_eq_getElem hi] at h4
      exact (Option.some.inj h4).symm
  · have hpi : i - E - 4 < p.length := by omega
    have e : (wrapF p).set i y ++ r = [] ++ (enc (code ((p.set (i - E - 4) y).length : Int)) ++ (be4 (sum p) ++ (p.set (i - E - 4) y ++ r))) := by
      rw [List.length_set]
      unfold wrapF
      rw [List.set_append_right _ _ (by omega), hE, List.set_append_right _ _ (by rw [be4_length]; omega), be4_length]
      simp
    rw [e]
    have h2 := rNext_at [] (be4 (sum p)) (p.set (i - E - 4) y) r rfl (by rw [List.length_set]; exact hp)
    rw [if_neg] at h2
    · exact h2
    · intro he
      refine sum_set hb hpi h0 h1 ?_ (be4_inj (sum_lt _) (sum_lt _) he.symm)
      intro hy
      apply hne
      have h4 : (wrapF p)[i]? = some y := by
        unfold wrapF
        rw [List.getElem?_append_right (by omega), hE, List.getElem?_append_right (by rw [be4_length]; omega), be4_length, List.getElem?_eq_getElem hpi, hy]
      rw [List.getElem?_eq_getElem hi] at h4
      exact (Option.some.inj h4).symm
end Go.Proofs.Ytkkelbakadbbhaa.Sp
