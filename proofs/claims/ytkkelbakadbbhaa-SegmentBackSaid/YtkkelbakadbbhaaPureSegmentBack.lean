/- The law SegmentBack, out of what its functions compute; and what is needed for it. -/
import Derived.Laws.BitsLemmas
import Derived.Lib.Strings
import Derived.Test.YtkkelbakadbbhaaWords
import Derived.Test.YtkkelbakadbbhaaYbrokerlaw32SegmentBack
import Derived.Test.YtkkelbakadbbhaaYbrokerlaw32awake
import Derived.Test.YtkkelbakadbbhaaYframe0
import Derived.Test.YtkkelbakadbbhaaYpack0
import Derived.Test.YtkkelbakadbbhaaYrecord0
import Derived.Test.YtkkelbakadbbhaaYsegment0
set_option linter.unusedVariables false
set_option linter.unusedSimpArgs false
namespace Go.Proofs.Ytkkelbakadbbhaa.Sp
open Go.RowKit Go.Proofs.YtkkelbakadbbhaaW.PrintWords Go.Proofs.YtkkelbakadbbhaaW.PrintMore

/-! ### bits -/
theorem wraps_u64 (n : Int) (h₀ : 0 ≤ n) (h₁ : n < 2 ^ 64) : IntKind.u64.wrap n = n := by
  simp [IntKind.wrap, IntKind.bits, IntKind.signed]; omega
theorem wrap_u64 (n : Int) : IntKind.u64.wrap n = n % 18446744073709551616 := by simp [IntKind.wrap, IntKind.bits, IntKind.signed]
theorem wraps_u32 (n : Int) (h₀ : 0 ≤ n) (h₁ : n < 2 ^ 32) : IntKind.u32.wrap n = n := by
  simp [IntKind.wrap, IntKind.bits, IntKind.signed]; omega
theorem wraps_i64 (n : Int) (h₀ : 0 ≤ n) (h₁ : n < 2 ^ 63) : IntKind.i64.wrap n = n := by
  rw [IntKind.wrap_i64]; omega
theorem bits_xor_nat (k : IntKind) (j : Nat) (hj : j ≤ k.bits) (hk : ∀ n : Int, 0 ≤ n → n < 2 ^ j → k.wrap n = n) (a b : Nat) (ha : a < 2 ^ j) (hb : b < 2 ^ j) :
    bits .xor k a b = ((a ^^^ b : Nat) : Int) := by
  have hp : 2 ^ j ≤ 2 ^ k.bits := Nat.pow_le_pow_right (by decide) hj
  have ha' : a % 2 ^ k.bits = a := Nat.mod_eq_of_lt (Nat.lt_of_lt_of_le ha hp)
  have hb' : b % 2 ^ k.bits = b := Nat.mod_eq_of_lt (Nat.lt_of_lt_of_le hb hp)
  simp only [bits, BitVec.ofInt_natCast, BitVec.toNat_xor, BitVec.toNat_ofNat, ha', hb']
  exact hk _ (Int.natCast_nonneg _) (by exact_mod_cast Nat.xor_lt_two_pow ha hb)
theorem u64_xor0 (x : Int) (h0 : 0 ≤ x) (h1 : x < 2 ^ 64) : bits .xor .u64 x 0 = x := by
  obtain ⟨a, rfl⟩ := Int.eq_ofNat_of_zero_le h0
  have := bits_xor_nat .u64 64 (by decide) wraps_u64 a 0 (by omega) (by decide)
  simpa using this
theorem nat_xor_ones (a : Nat) (h : a < 2 ^ 64) : a ^^^ 18446744073709551615 = 18446744073709551615 - a := by
  have h2 := BitVec.toNat_xor (BitVec.ofNat 64 a) (BitVec.allOnes 64)
  rw [BitVec.xor_allOnes, BitVec.toNat_not] at h2
  simp [BitVec.toNat_ofNat, Nat.mod_eq_of_lt h] at h2
  omega
theorem u64_xor1 (x : Int) (h0 : 0 ≤ x) (h1 : x < 2 ^ 64) : bits .xor .u64 x 18446744073709551615 = 18446744073709551615 - x := by
  obtain ⟨a, rfl⟩ := Int.eq_ofNat_of_zero_le h0
  have := bits_xor_nat .u64 64 (by decide) wraps_u64 a 18446744073709551615 (by omega) (by decide)
  rw [nat_xor_ones a (by omega)] at this
  have h3 : ((18446744073709551615 : Nat) : Int) = 18446744073709551615 := rfl
  rw [h3] at this
  rw [this]; omega
theorem u64_and127 (x : Int) (h₀ : 0 ≤ x) (h₁ : x < 2 ^ 64) : bits .and .u64 x 127 = x % 128 := bits_mask .u64 64 (by decide) wraps_u64 7 (by decide) x h₀ h₁
theorem u64_and1 (x : Int) (h₀ : 0 ≤ x) (h₁ : x < 2 ^ 64) : bits .and .u64 x 1 = x % 2 := bits_mask .u64 64 (by decide) wraps_u64 1 (by decide) x h₀ h₁
theorem u8_and127 (x : Int) (h₀ : 0 ≤ x) (h₁ : x < 256) : bits .and .u8 x 127 = x % 128 := bits_mask .u8 8 (by decide) wraps_u8 7 (by decide) x h₀ h₁
theorem bits_or_comm (k : IntKind) (x y : Int) : bits .or k x y = bits .or k y x := by simp only [bits, BitVec.or_comm]
theorem u8_or_128 (x : Int) (h₀ : 0 ≤ x) (h₁ : x < 128) : bits .or .u8 x 128 = x + 128 := by
  rw [bits_or_comm, bits_join .u8 8 (by decide) wraps_u8 7 128 x (by decide) (by decide) (by decide) h₀ h₁ (by omega)]; omega
theorem u64_or_join (i : Nat) (x y : Int) (hi : i ≤ 64) (hx₀ : 0 ≤ x) (hx : x < 2 ^ i) (hy0 : 0 ≤ y) (hy : y % 2 ^ i = 0) (hy₁ : y < 2 ^ 64) : bits .or .u64 x y = x + y := by
  rw [bits_or_comm, bits_join .u64 64 (by decide) wraps_u64 i y x hy0 hy hy₁ hx₀ hx (Int.lt_of_lt_of_le hx (by exact_mod_cast Nat.pow_le_pow_right (by decide) hi))]
  omega
theorem i64_or_join (i : Nat) (x y : Int) (hx0 : 0 ≤ x) (hx : x % 2 ^ i = 0) (hx1 : x < 2 ^ 63) (hy0 : 0 ≤ y) (hy : y < 2 ^ i) (hy1 : y < 2 ^ 63) : bits .or .i64 x y = x + y :=
  bits_join .i64 63 (by decide) wraps_i64 i x y hx0 hx hx1 hy0 hy hy1
end Go.Proofs.Ytkkelbakadbbhaa.Sp

set_option linter.unusedVariables false
set_option linter.unusedSimpArgs false
namespace Go.Proofs.Ytkkelbakadbbhaa.Sp
open Go.RowKit Go.Proofs.YtkkelbakadbbhaaW.PrintWords Go.Proofs.YtkkelbakadbbhaaW.PrintMore

def Byt (l : List Int) : Prop := ∀ x ∈ l, 0 ≤ x ∧ x ≤ 255
theorem Byt.nil : Byt [] := fun x h => by simp at h
theorem Byt.append {a b : List Int} (ha : Byt a) (hb : Byt b) : Byt (a ++ b) := fun x h => by
  rcases List.mem_append.1 h with h | h
  · exact ha x h
  · exact hb x h
theorem Byt.cons {x : Int} {a : List Int} (h0 : 0 ≤ x) (h1 : x ≤ 255) (ha : Byt a) : Byt (x :: a) := fun y h => by
  rcases List.mem_cons.1 h with rfl | h
  · exact ⟨h0, h1⟩
  · exact ha y h
theorem Byt.take {a : List Int} (h : Byt a) (n : Nat) : Byt (a.take n) := fun x hx => h x (List.mem_of_mem_take hx)
theorem Byt.drop {a : List Int} (h : Byt a) (n : Nat) : Byt (a.drop n) := fun x hx => h x (List.mem_of_mem_drop hx)
def enc (c : Nat) : List Int := if c < 128 then [(c : Int)] else ((c % 128 + 128 : Nat) : Int) :: enc (c / 128)
termination_by c
decreasing_by omega
theorem enc_small {c : Nat} (h : c < 128) : enc c = [(c : Int)] := by rw [enc, if_pos h]
theorem enc_big {c : Nat} (h : ¬ c < 128) : enc c = ((c % 128 + 128 : Nat) : Int) :: enc (c / 128) := by rw [enc, if_neg h]
theorem enc_pos (c : Nat) : 1 ≤ (enc c).length := by
  rw [enc]; split <;> simp
theorem enc_byt (c : Nat) : Byt (enc c) := by
  induction c using Nat.strongRecOn with
  | _ c ih =>
    by_cases h : c < 128
    · rw [enc_small h]; exact Byt.cons (by omega) (by omega) Byt.nil
    · rw [enc_big h]; exact Byt.cons (by omega) (by omega) (ih _ (by omega))
theorem enc_len (c : Nat) : ∀ j, c < 128 ^ (j + 1) → (enc c).length ≤ j + 1 := by
  induction c using Nat.strongRecOn with
  | _ c ih =>
    intro j hj
    by_cases h : c < 128
    · rw [enc_small h]; simp
    · rw [enc_big h]
      cases j with
      | zero => simp at hj; omega
      | succ j =>
        have := ih (c / 128) (by omega) j (by rw [Nat.pow_succ] at hj; omega)
        simp; omega
theorem enc_len10 {c : Nat} (h : c < 2 ^ 64) : (enc c).length ≤ 10 := enc_len c 9 (Nat.lt_of_lt_of_le h (by decide))

def code (n : Int) : Nat := if 0 ≤ n then (2 * n).toNat else (-(2 * n) - 1).toNat
def num (c : Nat) : Int := if c % 2 = 0 then ((c / 2 : Nat) : Int) else -((c / 2 : Nat) : Int) - 1
theorem num_code (n : Int) : num (code n) = n := by unfold num code; split <;> split <;> omega
theorem code_num (c : Nat) : code (num c) = c := by unfold num code; split <;> split <;> omega
theorem code_lt {n : Int} (h0 : -9223372036854775808 ≤ n) (h1 : n ≤ 9223372036854775807) : code n < 2 ^ 64 := by unfold code; split <;> omega
theorem num_range {c : Nat} (h : c < 2 ^ 64) : -9223372036854775808 ≤ num c ∧ num c ≤ 9223372036854775807 := by unfold num; split <;> omega

inductive Dec where
  | ok (c k : Nat)
  | trunc
  | syn
def dec : List Int → Nat → Nat → Dec
  | [], _, _ => .trunc
  | x :: r, i, c => if (i = 9 ∧ 1 < x) ∨ (0 < i ∧ x = 0) then .syn else if x < 128 then .ok (c + x.toNat * 128 ^ i) (i + 1) else dec r (i + 1) (c + (x.toNat - 128) * 128 ^ i)
theorem pow128_9 : (128 : Nat) ^ 9 = 9223372036854775808 := by decide
theorem dec_syn {x : Int} {r : List Int} {i c : Nat} (h : (i = 9 ∧ 1 < x) ∨ (0 < i ∧ x = 0)) : dec (x :: r) i c = .syn := by rw [dec, if_pos h]
theorem dec_ok {x : Int} {r : List Int} {i c : Nat} (h : ¬ ((i = 9 ∧ 1 < x) ∨ (0 < i ∧ x = 0))) (hx : x < 128) : dec (x :: r) i c = .ok (c + x.toNat * 128 ^ i) (i + 1) := by rw [dec, if_neg h, if_pos hx]
theorem dec_more {x : Int} {r : List Int} {i c : Nat} (h : ¬ ((i = 9 ∧ 1 < x) ∨ (0 < i ∧ x = 0))) (hx : ¬ x < 128) : dec (x :: r) i c = dec r (i + 1) (c + (x.toNat - 128) * 128 ^ i) := by rw [dec, if_neg h, if_neg hx]

theorem pow128_dvd (i : Nat) : ∀ c : Nat, c * 128 ^ i < 2 ^ 64 → i = 9 → c ≤ 1 := by
  intro c h hi; subst hi; rw [pow128_9] at h; omega
theorem dec_enc (r : List Int) (c : Nat) : ∀ i a, c * 128 ^ i < 2 ^ 64 → (i = 0 ∨ 0 < c) → dec (enc c ++ r) i a = .ok (a + c * 128 ^ i) (i + (enc c).length) := by
  induction c using Nat.strongRecOn with
  | _ c ih =>
    intro i a h hi
    have h9 := pow128_dvd i c h
    by_cases hc : c < 128
    · rw [enc_small hc]
      have hn : ¬ ((i = 9 ∧ 1 < ((c : Nat) : Int)) ∨ (0 < i ∧ ((c : Nat) : Int) = 0)) := by omega
      rw [List.singleton_append, dec_ok hn (by omega)]
      simp
    · rw [enc_big hc]
      have hn : ¬ ((i = 9 ∧ 1 < ((c % 128 + 128 : Nat) : Int)) ∨ (0 < i ∧ ((c % 128 + 128 : Nat) : Int) = 0)) := by omega
      rw [List.cons_append, dec_more hn (by omega)]
      have hp : c / 128 * 128 ^ (i + 1) = c * 128 ^ i - c % 128 * 128 ^ i := by
        have h1 : c / 128 * 128 = c - c % 128 := by omega
        rw [Nat.pow_succ, Nat.mul_comm (128 ^ i), ← Nat.mul_assoc, h1, Nat.sub_mul]
      have hle : c % 128 * 128 ^ i ≤ c * 128 ^ i := Nat.mul_le_mul_right _ (Nat.mod_le _ _)
      rw [ih (c / 128) (by omega) (i + 1) _ (by omega) (.inr (by omega)), hp]
      have e1 : (((c % 128 + 128 : Nat) : Int).toNat - 128) = c % 128 := by omega
      rw [e1]
      have e2 : a + c % 128 * 128 ^ i + (c * 128 ^ i - c % 128 * 128 ^ i) = a + c * 128 ^ i := by
        generalize c % 128 * 128 ^ i = u at *
        generalize c * 128 ^ i = v at *
        omega
      have e3 : i + 1 + (enc (c / 128)).length = i + (((c % 128 + 128 : Nat) : Int) :: enc (c / 128)).length := by rw [List.length_cons]; omega
      rw [e2, e3]
theorem dec_only (l : List Int) : ∀ i a c k, Byt l → i ≤ 9 → dec l i a = .ok c k →
    ∃ c', c = a + c' * 128 ^ i ∧ k = i + (enc c').length ∧ (enc c').length ≤ l.length ∧ l.take (enc c').length = enc c' ∧ (i = 0 ∨ 0 < c') ∧ c' * 128 ^ i < 2 ^ 64 := by
  induction l with
  | nil => intro i a c k _ _ h; simp [dec] at h
  | cons x r ih =>
    intro i a c k hb hi h
    have hx := hb x (by simp)
    by_cases hs : (i = 9 ∧ 1 < x) ∨ (0 < i ∧ x = 0)
    · rw [dec_syn hs] at h; cases h
    · by_cases hlt : x < 128
      · rw [dec_ok hs hlt] at h
        injection h with h1 h2
        have he : enc x.toNat = [x] := by rw [enc_small (by omega)]; congr 1; omega
        refine ⟨x.toNat, h1.symm, by rw [he]; simp; omega, by rw [he]; simp, by rw [he]; simp, by omega, ?_⟩
        have hle : 128 ^ i ≤ 128 ^ 9 := Nat.pow_le_pow_right (by decide) hi
        by_cases h9 : i = 9
        · subst h9; rw [pow128_9]; omega
        · have hle8 : 128 ^ i ≤ 128 ^ 8 := Nat.pow_le_pow_right (by decide) (by omega)
          have h3 : x.toNat * 128 ^ i ≤ 127 * 128 ^ 8 := Nat.mul_le_mul (by omega) hle8
          have h4 : (127 : Nat) * 128 ^ 8 < 2 ^ 64 := by decide
          omega
      · rw [dec_more hs hlt] at h
        have hi9 : i ≠ 9 := by omega
        obtain ⟨c', h1, h2, h3, h4, h5, h6⟩ := ih (i + 1) _ c k (fun y hy => hb y (List.mem_cons_of_mem _ hy)) (by omega) h
        have hc' : 0 < c' := by omega
        have hbig : ¬ (c' * 128 + (x.toNat - 128)) < 128 := by omega
        have he : enc (c' * 128 + (x.toNat - 128)) = x :: enc c' := by
          rw [enc_big hbig]
          congr 1
          · omega
          · congr 1; omega
        have hp : c' * 128 ^ (i + 1) = c' * 128 * 128 ^ i := by rw [Nat.pow_succ, Nat.mul_comm (128 ^ i), ← Nat.mul_assoc]
        refine ⟨c' * 128 + (x.toNat - 128), ?_, by rw [he]; simp; omega, by rw [he]; simp; omega, ?_, .inr (by omega), ?_⟩
        · rw [h1, hp, Nat.add_mul]; omega
        · rw [he]; simp [h4]
        · -- c' * 128^(i+1) < 2^64, and below the next multiple
          rw [Nat.add_mul, ← hp]
          have hd : (2 : Nat) ^ 64 = 2 ^ (64 - 7 * (i + 1)) * 128 ^ (i + 1) := by
            have : (128 : Nat) = 2 ^ 7 := by decide
            rw [this, ← Nat.pow_mul, ← Nat.pow_add]
            congr 1; omega
          have hlt2 : c' < 2 ^ (64 - 7 * (i + 1)) := by
            rw [hd] at h6
            exact Nat.lt_of_mul_lt_mul_right h6
          have h7 : (c' + 1) * 128 ^ (i + 1) ≤ 2 ^ 64 := by rw [hd]; exact Nat.mul_le_mul_right _ hlt2
          have h8 : (x.toNat - 128) * 128 ^ i < 128 ^ (i + 1) := by
            rw [Nat.pow_succ, Nat.mul_comm (128 ^ i)]
            exact Nat.mul_lt_mul_of_pos_right (by omega) (Nat.pow_pos (by decide))
          rw [Nat.add_mul] at h7
          omega
end Go.Proofs.Ytkkelbakadbbhaa.Sp

set_option linter.unusedVariables false
set_option linter.unusedSimpArgs false
namespace Go.Proofs.Ytkkelbakadbbhaa.Sp
open Go.RowKit Go.Proofs.YtkkelbakadbbhaaW.PrintWords Go.Proofs.YtkkelbakadbbhaaW.PrintLast Go.Proofs.YtkkelbakadbbhaaW.PrintMore Go.Proofs.Ytkkelbakadbbhaa.J

theorem Ev.pos {α : Type} {c : Prop} [Decidable c] {a b : Nat → Option α} {r : α} (h : c) (e : Ev a r) : Ev (fun k => if c then a k else b k) r := Ev.congr (fun k => if_pos h) e
theorem Ev.neg {α : Type} {c : Prop} [Decidable c] {a b : Nat → Option α} {r : α} (h : ¬ c) (e : Ev b r) : Ev (fun k => if c then a k else b k) r := Ev.congr (fun k => if_neg h) e
theorem Ev.get {α β : Type} {o : Option α} {x : α} {f : Nat → α → Option β} {r : β} (h : o = some x) (e : Ev (fun k => f k x) r) : Ev (fun k => o.bind (f k)) r := by subst h; exact e
theorem wrap64_in {n : Int} (h0 : -9223372036854775808 ≤ n) (h1 : n ≤ 9223372036854775807) : wrap64 n = n := by unfold wrap64; omega
theorem u64w {n : Int} (h0 : 0 ≤ n) (h1 : n < 18446744073709551616) : IntKind.u64.wrap n = n := by rw [wrap_u64]; omega
theorem pack_code_eq (n : Int) (h0 : -9223372036854775808 ≤ n) (h1 : n ≤ 9223372036854775807) : pack_code.f n = some ((code n : Nat) : Int) := by
  unfold pack_code.f
  rw [wrap_u64, wrap_u64, wrap_u64]
  by_cases h : 0 ≤ n
  · have e1 : n / 9223372036854775808 = 0 := by omega
    have e2 : (0 : Int) % 18446744073709551616 = 0 := rfl
    rw [e1, e2, u64_xor0 _ (by omega) (by omega)]
    congr 1; unfold code; rw [if_pos h]; omega
  · have e1 : n / 9223372036854775808 = -1 := by omega
    have e2 : (-1 : Int) % 18446744073709551616 = 18446744073709551615 := rfl
    rw [e1, e2, u64_xor1 _ (by omega) (by omega)]
    congr 1; unfold code; rw [if_neg h]; omega
theorem add_step {c : Nat} (h : 128 ≤ c) (hc : c < 2 ^ 64) : Go.bits .or .u8 ((Go.bits .and .u64 (c : Int) 127) % 256) 128 = ((c % 128 + 128 : Nat) : Int) := by
  rw [u64_and127 _ (by omega) (by omega), u8_or_128 _ (by omega) (by omega)]; omega
theorem pack_add_l0 (c : Nat) : c < 2 ^ 64 → ∀ l : List Int, l.length + (enc c).length ≤ 140737488355328 → Ev (fun k => pack_add.l0 k l (c : Int)) (l ++ enc c) := by
  induction c using Nat.strongRecOn with
  | _ c ih =>
    intro hc l hl
    have hp := enc_pos c
    by_cases h : c < 128
    · rw [enc_small h] at hl ⊢
      simp at hl
      refine Ev.step (f := fun _ => some (l ++ [(c : Int)])) (fun k => ?_) (Ev.now _)
      simp only [pack_add.l0]
      rw [if_neg (by omega), if_pos (by omega), show (c : Int) % 256 = c from by omega]
    · rw [enc_big h] at hl ⊢
      simp at hl
      have h2 := ih (c / 128) (by omega) (by omega) (l ++ [((c % 128 + 128 : Nat) : Int)]) (by simp; omega)
      rw [List.append_assoc] at h2
      refine Ev.step (fun k => ?_) h2
      simp only [pack_add.l0]
      rw [if_pos (by omega), if_pos (by omega), add_step (by omega) hc, show (c : Int) / 128 = ((c / 128 : Nat) : Int) from by omega]
theorem pack_add_ev (l : List Int) (n : Int) (h0 : -9223372036854775808 ≤ n) (h1 : n ≤ 9223372036854775807) (hl : l.length ≤ 140737488355318) : Ev (fun k => pack_add.f k l n) (l ++ enc (code n)) := by
  unfold pack_add.f
  refine Ev.get (pack_code_eq n h0 h1) (pack_add_l0 _ (code_lt h0 h1) l ?_)
  have := enc_len10 (code_lt h0 h1)
  omega
theorem pack_owned_eq (l : List Int) (n : Int) (h0 : 0 ≤ n) (h1 : (l.length : Int) + n ≤ 140737488355328) : pack_owned.f l n = some l := by unfold pack_owned.f; rw [if_pos h0, if_pos h1]
theorem pack_PutNum_ev (l : List Int) (n : Int) (h0 : -9223372036854775808 ≤ n) (h1 : n ≤ 9223372036854775807) (hl : l.length ≤ 140737488355318) : Ev (fun k => pack_PutNum.f k l n) (l ++ enc (code n)) := by
  unfold pack_PutNum.f
  refine Ev.get (pack_owned_eq l 10 (by omega) (by omega)) (Ev.bind (pack_add_ev l n h0 h1 hl) (Ev.now _))

/-! ### decoding -/
def rNum (b : List Int) (p : Int) : Int × Int × Int :=
  if p < 0 ∨ p > (b.length : Int) then (0, 0, 1) else
    match dec (b.drop p.toNat) 0 0 with
    | .trunc => (0, 0, 3)
    | .syn => (0, 0, 2)
    | .ok c k => (num c, p + k, 0)
def fin (p : Int) : Dec → Int × Int × Int
  | .trunc => (0, 0, 3)
  | .syn => (0, 0, 2)
  | .ok c k => (num c, p + k, 0)
theorem rNum_in {b : List Int} {p : Int} (h0 : 0 ≤ p) (h1 : p ≤ (b.length : Int)) : rNum b p = fin p (dec (b.drop p.toNat) 0 0) := by
  unfold rNum; rw [if_neg (by omega)]; cases dec (b.drop p.toNat) 0 0 <;> rfl
theorem rNum_out {b : List Int} {p : Int} (h : p < 0 ∨ p > (b.length : Int)) : rNum b p = (0, 0, 1) := by unfold rNum; rw [if_pos h]
theorem pack_number_eq (c : Nat) (h : c < 2 ^ 64) : pack_number.f (c : Int) = some (num c) := by
  unfold pack_number.f
  rw [u64_and1 _ (by omega) (by omega)]
  by_cases h2 : c % 2 = 0
  · rw [if_neg (by omega), wrap64_in (by omega) (by omega)]
    congr 1; unfold num; rw [if_pos h2]; omega
  · rw [if_pos (by omega), wrap64_in (n := (c : Int) / 2) (by omega) (by omega), wrap64_in (n := -((c : Int) / 2)) (by omega) (by omega), wrap64_in (by omega) (by omega)]
    congr 1; unfold num; rw [if_neg h2]; omega
theorem drop_rd {b : List Int} {q : Nat} (h : q < b.length) : b.drop q = rd b (q : Int) :: b.drop (q + 1) := by
  rw [List.drop_eq_getElem_cons h]
  simp [rd, List.getD_eq_getElem?_getD, List.getElem?_eq_getElem h]
theorem rd_byt {b : List Int} (hb : Byt b) {q : Nat} (h : q < b.length) : 0 ≤ rd b (q : Int) ∧ rd b (q : Int) ≤ 255 := by
  apply hb
  have := drop_rd h
  have h2 : rd b (q : Int) ∈ b.drop q := by rw [this]; simp
  exact List.mem_of_mem_drop h2
theorem pow_le {i : Nat} (h : i ≤ 8) : (128 : Nat) ^ i ≤ 72057594037927936 := Nat.le_trans (Nat.pow_le_pow_right (by decide) h) (by decide)
theorem two_pow7 (i : Nat) : (2 : Nat) ^ (7 * i) = 128 ^ i := by rw [Nat.pow_mul]
theorem group {i c x : Nat} (hi : i ≤ 9) (hc : c < 128 ^ i) (hx : x ≤ 255) (h9 : i = 9 → x ≤ 1) :
    Go.bits .or .u64 (c : Int) (shl .u64 (IntKind.u64.wrap (Go.bits .and .u8 (x : Int) 127)) (wrap64 (7 * (i : Int)))) = ((c + x % 128 * 128 ^ i : Nat) : Int) ∧ c + x % 128 * 128 ^ i < 2 ^ 64 := by
  have hb : x % 128 * 128 ^ i < 2 ^ 64 := by
    by_cases h : i = 9
    · subst h; have := h9 rfl; rw [pow128_9]; omega
    · have h8 := pow_le (i := i) (by omega)
      have : x % 128 * 128 ^ i ≤ 127 * 72057594037927936 := Nat.mul_le_mul (by omega) h8
      omega
  have hsum : c + x % 128 * 128 ^ i < 2 ^ 64 := by
    by_cases h : i = 9
    · subst h; have := h9 rfl; rw [pow128_9] at *; omega
    · have h8 := pow_le (i := i) (by omega)
      have : x % 128 * 128 ^ i ≤ 127 * 72057594037927936 := Nat.mul_le_mul (by omega) h8
      omega
  refine ⟨?_, hsum⟩
  have e1 : Go.bits .and .u8 (x : Int) 127 = ((x % 128 : Nat) : Int) := by rw [u8_and127 _ (by omega) (by omega)]; omega
  rw [e1, u64w (by omega) (by omega), wrap64_in (by omega) (by omega)]
  unfold shl
  have e2 : (7 * (i : Int)).toNat = 7 * i := by omega
  have e3 : min (7 * i) IntKind.u64.bits = 7 * i := by simp [IntKind.bits]; omega
  rw [e2, e3]
  have e4 : ((x % 128 : Nat) : Int) * 2 ^ (7 * i) = ((x % 128 * 128 ^ i : Nat) : Int) := by
    rw [← two_pow7 i]; push_cast; rfl
  rw [e4, u64w (by omega) (by omega)]
  have e5 : (((x % 128 * 128 ^ i : Nat) : Int)) % 2 ^ (7 * i) = 0 := by
    have : (2 : Int) ^ (7 * i) = ((128 ^ i : Nat) : Int) := by rw [← two_pow7 i]; push_cast; rfl
    rw [this]
    have h1 : (x % 128 * 128 ^ i) % 128 ^ i = 0 := Nat.mul_mod_left _ _
    exact_mod_cast h1
  rw [u64_or_join (7 * i) (c : Int) _ (by omega) (by omega) (by have : (2 : Int) ^ (7 * i) = ((128 ^ i : Nat) : Int) := by { rw [← two_pow7 i]; push_cast; rfl }
                                                                rw [this]; exact_mod_cast hc) (by omega) e5 (by exact_mod_cast hb)]
  push_cast; rfl
theorem next_lt {i c x : Nat} (hc : c < 128 ^ i) : c + x % 128 * 128 ^ i < 128 ^ (i + 1) := by
  have h1 : (x % 128 + 1) * 128 ^ i ≤ 128 * 128 ^ i := Nat.mul_le_mul_right _ (by omega)
  rw [Nat.pow_succ, Nat.mul_comm (128 ^ i)]
  rw [Nat.add_mul] at h1
  omega
theorem pack_Num_l0 (b : List Int) (hb : Byt b) (hlen : b.length ≤ 4611686018427387904) (p : Nat) : ∀ (d i c : Nat), i + d = 10 → p + i ≤ b.length → c < 128 ^ i → i ≤ 9 → Ev (fun k => pack_Num.l0 k b (p : Int) (c : Int) (i : Int)) (fin p (dec (b.drop (p + i)) i c)) := by
  intro d
  induction d with
  | zero => intro i c h _ _ h9; omega
  | succ d ih =>
    intro i c hd hp hc hi
    have hw : wrap64 ((p : Int) + (i : Int)) = ((p + i : Nat) : Int) := by rw [wrap64_in (by omega) (by omega)]; omega
    by_cases he : p + i = b.length
    · refine Ev.step (f := fun _ => some (0, 0, 3)) (fun k => ?_) ?_
      · simp only [pack_Num.l0]; rw [hw, if_pos (by omega)]
      · rw [he, List.drop_length]; exact Ev.now _
    · have hlt : p + i < b.length := by omega
      have hx := rd_byt hb hlt
      obtain ⟨x, hxe⟩ := Int.eq_ofNat_of_zero_le hx.1
      have hx255 : x ≤ 255 := by omega
      rw [drop_rd hlt, hxe]
      by_cases hs : (i = 9 ∧ 1 < ((x : Nat) : Int)) ∨ (0 < i ∧ ((x : Nat) : Int) = 0)
      · rw [dec_syn hs]
        refine Ev.step (f := fun k => pack_Num.j2 k b (p : Int) (c : Int) (i : Int) (x : Int) true) (fun k => ?_) ?_
        · simp only [pack_Num.l0]
          rw [hw, hxe, if_neg (by omega), if_pos (by omega), if_pos (by omega)]
          by_cases h9 : (i : Int) = 9
          · rw [if_pos h9]
            by_cases h1 : ((x : Nat) : Int) > 1
            · rw [if_pos h1]
            · rw [if_neg h1, if_pos (by omega), show (((x : Nat) : Int) == 0) = true from by rw [beq_iff_eq]; omega]
          · rw [if_neg h9, if_pos (by omega), show (((x : Nat) : Int) == 0) = true from by rw [beq_iff_eq]; omega]
        · refine Ev.step (f := fun _ => some (0, 0, 2)) (fun k => ?_) (Ev.now _)
          simp only [pack_Num.j2, if_true]
      · obtain ⟨hg, hglt⟩ := group (c := c) hi hc hx255 (fun h => by omega)
        refine Ev.step (f := fun k => pack_Num.j2 k b (p : Int) (c : Int) (i : Int) (x : Int) false) (fun k => ?_) ?_
        · simp only [pack_Num.l0]
          rw [hw, hxe, if_neg (by omega), if_pos (by omega), if_pos (by omega)]
          by_cases h9 : (i : Int) = 9
          · rw [if_pos h9, if_neg (by omega), if_pos (by omega), show (((x : Nat) : Int) == 0) = false from by rw [beq_eq_false_iff_ne]; omega]
          · rw [if_neg h9]
            by_cases h0 : (i : Int) > 0
            · rw [if_pos h0, show (((x : Nat) : Int) == 0) = false from by rw [beq_eq_false_iff_ne]; omega]
            · rw [if_neg h0]
        · by_cases hlt128 : ((x : Nat) : Int) < 128
          · rw [dec_ok hs hlt128]
            have e1 : (x : Int).toNat = x % 128 := by omega
            refine Ev.step (f := fun _ => some (num (c + x % 128 * 128 ^ i), (p : Int) + ((i + 1 : Nat) : Int), 0)) (fun k => ?_) ?_
            · simp only [pack_Num.j2]
              rw [if_neg (by simp), if_pos (by rw [wrap64_in (by omega) (by omega)]; omega), if_pos hlt128, hg, pack_number_eq _ hglt, hw]
              simp only [Option.bind_some]
              rw [wrap64_in (by omega) (by omega)]
              congr 3
            · show Ev _ (num (c + (x : Int).toNat * 128 ^ i), (p : Int) + ((i + 1 : Nat) : Int), 0)
              rw [e1]; exact Ev.now _
          · rw [dec_more hs hlt128]
            have e1 : (x : Int).toNat - 128 = x % 128 := by omega
            have hi9 : i ≠ 9 := by omega
            have h2 := ih (i + 1) (c + x % 128 * 128 ^ i) (by omega) (by omega) (next_lt hc) (by omega)
            rw [e1]
            refine Ev.step (fun k => ?_) h2
            simp only [pack_Num.j2]
            rw [if_neg (by simp), if_pos (by rw [wrap64_in (by omega) (by omega)]; omega), if_neg hlt128, hg, wrap64_in (by omega) (by omega)]
            rfl
theorem pack_Num_ev (b : List Int) (hb : Byt b) (hlen : b.length ≤ 4611686018427387904) (p : Int) : Ev (fun k => pack_Num.f k b p) (rNum b p) := by
  unfold pack_Num.f
  by_cases h0 : p < 0
  · rw [rNum_out (.inl h0)]
    refine Ev.pos h0 (Ev.step (f := fun _ => some (0, 0, 1)) (fun k => ?_) (Ev.now _))
    simp only [pack_Num.j0, if_true]
  · refine Ev.neg h0 ?_
    by_cases h1 : p > (b.length : Int)
    · rw [rNum_out (.inr h1), show decide (p > (b.length : Int)) = true from decide_eq_true h1]
      refine Ev.step (f := fun _ => some (0, 0, 1)) (fun k => ?_) (Ev.now _)
      simp only [pack_Num.j0, if_true]
    · rw [show decide (p > (b.length : Int)) = false from decide_eq_false h1]
      obtain ⟨q, rfl⟩ := Int.eq_ofNat_of_zero_le (by omega : 0 ≤ p)
      rw [rNum_in (by omega) (by omega)]
      refine Ev.step (fun k => ?_) (pack_Num_l0 b hb hlen q 10 0 0 rfl (by omega) (by decide) (by omega))
      simp only [pack_Num.j0]
      rw [if_neg (by simp)]
      rfl
end Go.Proofs.Ytkkelbakadbbhaa.Sp

set_option linter.unusedVariables false
set_option linter.unusedSimpArgs false
namespace Go.Proofs.Ytkkelbakadbbhaa.Sp
open Go.RowKit Go.Proofs.YtkkelbakadbbhaaW.PrintWords Go.Proofs.YtkkelbakadbbhaaW.PrintLast Go.Proofs.YtkkelbakadbbhaaW.PrintMore Go.Proofs.Ytkkelbakadbbhaa.J

/-! ### strings and lists of bytes -/
theorem str_ext {a b : ByteArray} (h : a.toList = b.toList) : a = b := by
  rw [Go.Lib.toList_data, Go.Lib.toList_data] at h
  have : a.data = b.data := Array.ext' h
  cases a; cases b; simp at this; rw [this]
theorem bytesOf_byt (s : ByteArray) : Byt (bytesOf s) := fun x hx => by
  simp only [bytesOf, List.mem_map] at hx
  obtain ⟨b, _, rfl⟩ := hx
  have := b.toNat_lt
  omega
theorem str_bytes (s : ByteArray) : strOfNums (bytesOf s) = s := by
  apply str_ext
  rw [Go.Lib.toList_data, Go.Lib.toList_data, strOfNums_data]
  simp [bytesOf, Function.comp_def]
theorem bytes_str {l : List Int} (h : Byt l) : bytesOf (strOfNums l) = l := by
  simp only [bytesOf, strOfNums_data, List.map_map]
  conv => rhs; rw [← List.map_id l]
  apply List.map_congr_left
  intro x hx
  have := h x hx
  simp only [Function.comp, id]
  rw [UInt8.toNat_ofNat']
  omega
theorem rNum_ok {b : List Int} {p n q : Int} (hb : Byt b) (h : rNum b p = (n, q, 0)) :
    0 ≤ p ∧ p < q ∧ q ≤ (b.length : Int) ∧ -9223372036854775808 ≤ n ∧ n ≤ 9223372036854775807 ∧ q = p + ((enc (code n)).length : Int) ∧ (b.drop p.toNat).take (enc (code n)).length = enc (code n) := by
  unfold rNum at h
  by_cases ho : p < 0 ∨ p > (b.length : Int)
  · rw [if_pos ho] at h; simp at h
  · rw [if_neg ho] at h
    cases hd : dec (b.drop p.toNat) 0 0 with
    | trunc => rw [hd] at h; simp at h
    | syn => rw [hd] at h; simp at h
    | ok c k =>
      rw [hd] at h
      simp only [Prod.mk.injEq] at h
      obtain ⟨rfl, rfl, _⟩ := h
      obtain ⟨c', h1, h2, h3, h4, _, h6⟩ := dec_only _ 0 0 c k (hb.drop _) (by omega) hd
      simp at h1 h2 h6
      subst h1
      have hp := enc_pos c
      have hr := num_range h6
      rw [code_num]
      rw [List.length_drop] at h3
      exact ⟨by omega, by omega, by omega, hr.1, hr.2, by omega, h4⟩
theorem rNum_at (l : List Int) (n : Int) (r : List Int) (h0 : -9223372036854775808 ≤ n) (h1 : n ≤ 9223372036854775807) : rNum (l ++ (enc (code n) ++ r)) (l.length : Int) = (n, (l.length : Int) + ((enc (code n)).length : Int), 0) := by
  rw [rNum_in (by omega) (by simp; omega)]
  rw [Int.toNat_natCast, List.drop_left, dec_enc r (code n) 0 0 (by simpa using code_lt h0 h1) (.inl rfl)]
  simp [fin, num_code]
/-! ### texts -/
def cat (s : ByteArray) : List Int := enc (code (s.size : Int)) ++ bytesOf s
theorem cat_byt (s : ByteArray) : Byt (cat s) := (enc_byt _).append (bytesOf_byt s)
theorem cat_len (s : ByteArray) : (cat s).length = (enc (code (s.size : Int))).length + s.size := by unfold cat; rw [List.length_append, bytesOf_length]
theorem pack_PutText_ev (l : List Int) (s : ByteArray) (hl : l.length ≤ 70368744177664) (hs : s.size ≤ 35184372088832) : Ev (fun k => pack_PutText.f k l s) (l ++ cat s) := by
  unfold pack_PutText.f
  have e1 := enc_len10 (code_lt (n := (s.size : Int)) (by omega) (by omega))
  refine Ev.get (pack_owned_eq l _ (by rw [wrap64_in (by omega) (by omega)]; omega) (by rw [wrap64_in (by omega) (by omega)]; omega)) ?_
  refine Ev.bind (pack_add_ev l _ (by omega) (by omega) (by omega)) (Ev.pos (by rw [List.length_append]; omega) ?_)
  rw [List.append_assoc]; exact Ev.now _
theorem cat_le (s : ByteArray) (hs : s.size ≤ 35184372088832) : (cat s).length ≤ 10 + s.size := by
  rw [cat_len]
  have e1 := enc_len10 (code_lt (n := (s.size : Int)) (by omega) (by omega))
  omega
def Short (b : Nat) (l : List ByteArray) : Prop := ∀ s ∈ l, s.size ≤ b
theorem Short.drop {b : Nat} {l : List ByteArray} (h : Short b l) (n : Nat) : Short b (l.drop n) := fun s hs => h s (List.mem_of_mem_drop hs)
/-! ### reading texts -/
def cut (b : List Int) (q n : Int) : List Int := (b.take (q + n).toNat).drop q.toNat
def E0 : ByteArray := ⟨#[]⟩
def rText (b : List Int) (p lim : Int) : ByteArray × Int × Int :=
  if (rNum b p).2.2 = 0 then
    if (rNum b p).1 < 0 then (E0, 0, 2) else if (rNum b p).1 > lim then (E0, 0, 5) else if (rNum b p).1 > (b.length : Int) - (rNum b p).2.1 then (E0, 0, 3)
    else (strOfNums (cut b (rNum b p).2.1 (rNum b p).1), (rNum b p).2.1 + (rNum b p).1, 0)
  else (E0, 0, (rNum b p).2.2)
theorem rNum_split {b : List Int} {p : Int} (hb : Byt b) (h : (rNum b p).2.2 = 0) : 0 ≤ p ∧ p < (rNum b p).2.1 ∧ (rNum b p).2.1 ≤ (b.length : Int) ∧ -9223372036854775808 ≤ (rNum b p).1 ∧ (rNum b p).1 ≤ 9223372036854775807 := by
  have h2 := rNum_ok (n := (rNum b p).1) (q := (rNum b p).2.1) hb (by rw [← h])
  exact ⟨h2.1, h2.2.1, h2.2.2.1, h2.2.2.2.1, h2.2.2.2.2.1⟩
theorem pack_Text_ev (b : List Int) (hb : Byt b) (hlen : b.length ≤ 4611686018427387904) (p lim : Int) : Ev (fun k => pack_Text.f k b p lim) (rText b p lim) := by
  unfold pack_Text.f rText
  refine Ev.bind (pack_Num_ev b hb hlen p) ?_
  by_cases h : (rNum b p).2.2 = 0
  · obtain ⟨g1, g2, g3, g4, g5⟩ := rNum_split hb h
    rw [wrap64_in (n := (b.length : Int) - (rNum b p).2.1) (by omega) (by omega)]
    simp only [if_pos h]
    by_cases h1 : (rNum b p).1 < 0
    · simp only [if_pos h1]; exact Ev.now _
    · simp only [if_neg h1]
      by_cases h2 : (rNum b p).1 > lim
      · simp only [if_pos h2]; exact Ev.now _
      · simp only [if_neg h2]
        by_cases h3 : (rNum b p).1 > (b.length : Int) - (rNum b p).2.1
        · simp only [if_pos h3]; exact Ev.now _
        · rw [wrap64_in (n := (rNum b p).2.1 + (rNum b p).1) (by omega) (by omega)]
          simp only [if_neg h3]
          exact Ev.pos (by omega) (Ev.pos (by omega) (Ev.pos (by omega) (Ev.now _)))
  · simp only [if_neg h]
    exact Ev.now _
theorem rText_ok {b : List Int} {p lim q : Int} {s : ByteArray} (hb : Byt b) (h : rText b p lim = (s, q, 0)) :
    0 ≤ p ∧ p < q ∧ q ≤ (b.length : Int) ∧ (s.size : Int) ≤ lim ∧ q = p + ((cat s).length : Int) ∧ (b.drop p.toNat).take (cat s).length = cat s := by
  unfold rText at h
  by_cases h0 : (rNum b p).2.2 = 0
  · rw [if_pos h0] at h
    by_cases h1 : (rNum b p).1 < 0
    · rw [if_pos h1] at h; simp at h
    · rw [if_neg h1] at h
      by_cases h2 : (rNum b p).1 > lim
      · rw [if_pos h2] at h; simp at h
      · rw [if_neg h2] at h
        by_cases h3 : (rNum b p).1 > (b.length : Int) - (rNum b p).2.1
        · rw [if_pos h3] at h; simp at h
        · rw [if_neg h3] at h
          simp only [Prod.mk.injEq, and_true] at h
          obtain ⟨rfl, rfl⟩ := h
          obtain ⟨g1, g2, g3, g4, g5, g6, g7⟩ := rNum_ok (n := (rNum b p).1) (q := (rNum b p).2.1) hb (by rw [← h0])
          generalize (rNum b p).1 = n at *
          generalize (rNum b p).2.1 = q at *
          have hcl : (cut b q n).length = n.toNat := by unfold cut; rw [List.length_drop, List.length_take]; omega
          have hsz : (strOfNums (cut b q n)).size = n.toNat := by rw [strOfNums_size, hcl]
          have hcat : cat (strOfNums (cut b q n)) = enc (code n) ++ cut b q n := by
            unfold cat
            rw [hsz, bytes_str (l := cut b q n) ((hb.take _).drop _), show ((n.toNat : Nat) : Int) = n from by omega]
          have hlen : (cat (strOfNums (cut b q n))).length = (enc (code n)).length + n.toNat := by rw [hcat, List.length_append, hcl]
          refine ⟨g1, by omega, by omega, by rw [hsz]; omega, by rw [hlen]; omega, ?_⟩
          rw [hlen, hcat, List.take_add, g7]
          congr 1
          rw [List.drop_drop]
          unfold cut
          rw [List.drop_take]
          congr 1
          · omega
          · congr 1; omega
  · rw [if_neg h0] at h
    simp only [Prod.mk.injEq] at h
    exact absurd h.2.2 h0
theorem rText_at (l : List Int) (s : ByteArray) (r : List Int) (lim : Int) (hs : (s.size : Int) ≤ lim) (hsz : s.size ≤ 35184372088832) : rText (l ++ (cat s ++ r)) (l.length : Int) lim = (s, (l.length : Int) + ((cat s).length : Int), 0) := by
  have e : l ++ (cat s ++ r) = l ++ (enc (code (s.size : Int)) ++ (bytesOf s ++ r)) := by unfold cat; rw [List.append_assoc]
  unfold rText
  rw [e, rNum_at l (s.size : Int) (bytesOf s ++ r) (by omega) (by omega)]
  dsimp only
  have hb := bytesOf_length s
  rw [if_pos rfl, if_neg (by omega), if_neg (by omega), if_neg (by simp only [List.length_append]; omega)]
  have hc : cut (l ++ (enc (code (s.size : Int)) ++ (bytesOf s ++ r))) ((l.length : Int) + ((enc (code (s.size : Int))).length : Int)) (s.size : Int) = bytesOf s := by
    unfold cut
    rw [show ((l.length : Int) + ((enc (code (s.size : Int))).length : Int) + (s.size : Int)).toNat = l.length + ((enc (code (s.size : Int))).length + s.size) from by omega, show ((l.length : Int) + ((enc (code (s.size : Int))).length : Int)).toNat = l.length + (enc (code (s.size : Int))).length from by omega]
    rw [List.take_append, List.drop_append, List.take_of_length_le (by omega), List.drop_of_length_le (by omega), List.nil_append, Nat.add_sub_cancel_left, Nat.add_sub_cancel_left]
    rw [List.take_append, List.drop_append, List.take_of_length_le (by omega), List.drop_of_length_le (by omega), List.nil_append, Nat.add_sub_cancel_left, Nat.sub_self, List.drop_zero, ← hb, List.take_left]
  rw [hc, str_bytes, cat_len]
  simp only [Prod.mk.injEq, true_and, and_true]
  push_cast; omega
end Go.Proofs.Ytkkelbakadbbhaa.Sp

set_option linter.unusedVariables false
set_option linter.unusedSimpArgs false
namespace Go.Proofs.Ytkkelbakadbbhaa.Sp
open Go.RowKit Go.Proofs.YtkkelbakadbbhaaW.PrintWords Go.Proofs.YtkkelbakadbbhaaW.PrintLast Go.Proofs.YtkkelbakadbbhaaW.PrintMore Go.Proofs.Ytkkelbakadbbhaa.J

def stp (s x : Nat) : Nat := ((s ^^^ x) * 16777619) % 4294967296
def fnv : Nat → List Int → Nat
  | s, [] => s
  | s, x :: r => fnv (stp s x.toNat) r
def sum (l : List Int) : Nat := fnv 2166136261 l
theorem stp_lt (s x : Nat) : stp s x < 4294967296 := Nat.mod_lt _ (by decide)
theorem fnv_lt : ∀ (l : List Int) (s : Nat), s < 4294967296 → fnv s l < 4294967296
  | [], s, h => h
  | x :: r, s, h => fnv_lt r _ (stp_lt _ _)
theorem sum_lt (l : List Int) : sum l < 4294967296 := fnv_lt l _ (by decide)
theorem frame_step {s x : Nat} (hs : s < 4294967296) (hx : x ≤ 255) : (Go.bits .xor .u32 (s : Int) ((x : Int) % 4294967296) * 16777619) % 4294967296 = ((stp s x : Nat) : Int) := by
  have e : (x : Int) % 4294967296 = (x : Int) := by omega
  rw [e, bits_xor_nat .u32 32 (by decide) wraps_u32 s x (by omega) (by omega)]
  unfold stp
  generalize s ^^^ x = y
  omega
theorem frame_Sum_l0 (b : List Int) (hb : Byt b) (hlen : b.length ≤ 4611686018427387904) : ∀ (d i s : Nat), i + d = b.length → s < 4294967296 → Ev (fun k => frame_Sum.l0 k (s : Int) b (b.length : Int) (i : Int)) ((fnv s (b.drop i) : Nat) : Int) := by
  intro d
  induction d with
  | zero =>
    intro i s hi hs
    refine Ev.step (f := fun _ => some (s : Int)) (fun k => ?_) ?_
    · simp only [frame_Sum.l0]; rw [if_neg (by omega), wrap64_in (by omega) (by omega)]
    · rw [List.drop_of_length_le (by omega)]; exact Ev.now _
  | succ d ih =>
    intro i s hi hs
    have hx := rd_byt hb (q := i) (by omega)
    obtain ⟨x, hxe⟩ := Int.eq_ofNat_of_zero_le hx.1
    have h2 := ih (i + 1) (stp s x) (by omega) (stp_lt _ _)
    rw [drop_rd (by omega), hxe]
    refine Ev.step (fun k => ?_) h2
    simp only [frame_Sum.l0]
    rw [if_pos (by omega), if_pos (by omega), if_pos (by omega), hxe, frame_step hs (by omega), wrap64_in (by omega) (by omega)]
    rfl
theorem frame_Sum_ev (b : List Int) (hb : Byt b) (hlen : b.length ≤ 4611686018427387904) : Ev (fun k => frame_Sum.f k b) ((sum b : Nat) : Int) := by
  unfold frame_Sum.f
  exact frame_Sum_l0 b hb hlen b.length 0 2166136261 (by omega) (by decide)
/-! ### frames -/
def be4 (s : Nat) : List Int := [((s / 16777216 % 256 : Nat) : Int), ((s / 65536 % 256 : Nat) : Int), ((s / 256 % 256 : Nat) : Int), ((s % 256 : Nat) : Int)]
theorem be4_byt (s : Nat) : Byt (be4 s) := by
  unfold be4
  exact Byt.cons (by omega) (by omega) (Byt.cons (by omega) (by omega) (Byt.cons (by omega) (by omega) (Byt.cons (by omega) (by omega) Byt.nil)))
def wrapF (b : List Int) : List Int := enc (code (b.length : Int)) ++ (be4 (sum b) ++ b)
theorem wrapF_byt {b : List Int} (hb : Byt b) : Byt (wrapF b) := (enc_byt _).append ((be4_byt _).append hb)
theorem wrapF_len (b : List Int) : (wrapF b).length = (enc (code (b.length : Int))).length + 4 + b.length := by
  unfold wrapF; simp only [List.length_append]; simp [be4]; omega
theorem be4_impl {s : Nat} (h : s < 4294967296) : [((s : Int) / 16777216) % 256, ((s : Int) / 65536) % 256, ((s : Int) / 256) % 256, (s : Int) % 256] = be4 s := by
  unfold be4; simp only [List.cons.injEq, and_true]; omega
theorem frame_Wrap_ev (b : List Int) (hb : Byt b) (hlen : b.length ≤ 65536) : Ev (fun k => frame_Wrap.f k b) (wrapF b) := by
  unfold frame_Wrap.f
  have e1 := enc_len10 (code_lt (n := (b.length : Int)) (by omega) (by omega))
  refine Ev.neg (by omega) (Ev.bind (frame_Sum_ev b hb (by omega)) (Ev.bind (pack_PutNum_ev [] _ (by omega) (by omega) (by simp)) ?_))
  rw [be4_impl (sum_lt b)]
  refine Ev.get rfl (Ev.pos ?_ (Ev.get rfl (Ev.pos ?_ ?_)))
  · simp [be4]; omega
  · simp [be4]; omega
  · rw [List.nil_append, List.append_assoc]; exact Ev.now _
/-! ### reading a frame -/
def pay (b : List Int) (q n : Int) : List Int := cut b (q + 4) n
def rNext (b : List Int) (p : Int) : List Int × Int × Int :=
  if (rNum b p).2.2 = 0 then
    if (rNum b p).1 < 0 then ([], 0, 2) else if (rNum b p).1 > 65536 then ([], 0, 5) else if (b.length : Int) - (rNum b p).2.1 < 4 + (rNum b p).1 then ([], 0, 3)
    else if cut b (rNum b p).2.1 4 = be4 (sum (pay b (rNum b p).2.1 (rNum b p).1)) then (pay b (rNum b p).2.1 (rNum b p).1, (rNum b p).2.1 + 4 + (rNum b p).1, 0) else ([], 0, 4)
  else ([], 0, (rNum b p).2.2)
theorem cut_length {b : List Int} {q n : Int} (h0 : 0 ≤ q) (h1 : 0 ≤ n) (h2 : q + n ≤ (b.length : Int)) : (cut b q n).length = n.toNat := by
  unfold cut; rw [List.length_drop, List.length_take]; omega
theorem cut_byt {b : List Int} (hb : Byt b) (q n : Int) : Byt (cut b q n) := (hb.take _).drop _
theorem be4_iff {c : List Int} (hc : Byt c) (hl : c.length = 4) {s : Nat} (hs : s < 4294967296) :
    (Go.bits .or .i64 (Go.bits .or .i64 (Go.bits .or .i64 (wrap64 ((wrap64 (rd c 0)) * 16777216)) (wrap64 ((wrap64 (rd c 1)) * 65536))) (wrap64 ((wrap64 (rd c 2)) * 256))) (wrap64 (rd c 3))) = (s : Int) ↔ c = be4 s := by
  match c, hl with
  | [a, b, d, e], _ =>
    have ha := hc a (by simp)
    have hb := hc b (by simp)
    have hd := hc d (by simp)
    have he := hc e (by simp)
    have r0 : rd [a, b, d, e] 0 = a := rfl
    have r1 : rd [a, b, d, e] 1 = b := rfl
    have r2 : rd [a, b, d, e] 2 = d := rfl
    have r3 : rd [a, b, d, e] 3 = e := rfl
    rw [r0, r1, r2, r3, wrap64_in (n := a) (by omega) (by omega), wrap64_in (n := b) (by omega) (by omega), wrap64_in (n := d) (by omega) (by omega), wrap64_in (n := e) (by omega) (by omega)]
    rw [wrap64_in (n := a * 16777216) (by omega) (by omega), wrap64_in (n := b * 65536) (by omega) (by omega), wrap64_in (n := d * 256) (by omega) (by omega)]
    rw [i64_or_join 24 (a * 16777216) (b * 65536) (by omega) (by omega) (by omega) (by omega) (by omega) (by omega), i64_or_join 16 (a * 16777216 + b * 65536) (d * 256) (by omega) (by omega) (by omega) (by omega) (by omega) (by omega), i64_or_join 8 (a * 16777216 + b * 65536 + d * 256) e (by omega) (by omega) (by omega) (by omega) (by omega) (by omega)]
    unfold be4
    simp only [List.cons.injEq, and_true]
    omega
theorem frame_Next_ev (b : List Int) (hb : Byt b) (hlen : b.length ≤ 4611686018427387) (p : Int) : Ev (fun k => frame_Next.f k b p) (rNext b p) := by
  unfold frame_Next.f rNext
  refine Ev.bind (pack_Num_ev b hb (by omega) p) ?_
  by_cases h : (rNum b p).2.2 = 0
  · obtain ⟨g1, g2, g3, g4, g5⟩ := rNum_split hb h
    simp only [if_pos h]
    by_cases h1 : (rNum b p).1 < 0
    · simp only [if_pos h1]; exact Ev.now _
    · simp only [if_neg h1]
      by_cases h2 : (rNum b p).1 > 65536
      · simp only [if_pos h2]; exact Ev.now _
      · simp only [if_neg h2]
        generalize (rNum b p).1 = n at *
        generalize (rNum b p).2.1 = q at *
        rw [wrap64_in (n := (b.length : Int) - q) (by omega) (by omega), wrap64_in (n := 4 + n) (by omega) (by omega)]
        by_cases h3 : (b.length : Int) - q < 4 + n
        · simp only [if_pos h3]; exact Ev.now _
        · rw [wrap64_in (n := q + 4) (by omega) (by omega), wrap64_in (n := q + 4 + n) (by omega) (by omega)]
          simp only [if_neg h3]
          have hp : (b.take (q + 4 + n : Int).toNat).drop (q + 4 : Int).toNat = pay b q n := rfl
          have hc : (b.take (q + 4 : Int).toNat).drop (q : Int).toNat = cut b q 4 := rfl
          have hl := cut_length (b := b) (q := q) (n := 4) (by omega) (by omega) (by omega)
          have hl2 : (pay b q n).length = n.toNat := cut_length (by omega) (by omega) (by omega)
          have hl4 : ((cut b q 4).length : Int) = 4 := by rw [hl]; rfl
          rw [hp, hc, hl4]
          refine Ev.pos (by omega) (Ev.pos (by omega) (Ev.pos (by omega) (Ev.get rfl (Ev.pos (by omega) (Ev.pos (by omega) (Ev.pos (by omega) (Ev.pos (by rw [hl2]; simp; omega) (Ev.get rfl (Ev.pos (by omega) (Ev.pos (by omega) (Ev.pos (by omega) (Ev.pos (by omega) ?_))))))))))))
          rw [List.nil_append]
          refine Ev.bind (frame_Sum_ev _ (cut_byt hb _ _) (by rw [hl2]; omega)) ?_
          have hiff := be4_iff (cut_byt hb q 4) hl (sum_lt (pay b q n))
          by_cases h4 : cut b q 4 = be4 (sum (pay b q n))
          · rw [if_pos h4]; exact Ev.pos (hiff.2 h4) (Ev.now _)
          · rw [if_neg h4]; exact Ev.neg (fun he => h4 (hiff.1 he)) (Ev.now _)
  · simp only [if_neg h]; exact Ev.now _
theorem cut_split {b : List Int} {p q n : Int} (h0 : 0 ≤ p) (h1 : p ≤ q) (h2 : 0 ≤ n) : cut b p (q - p + n) = cut b p (q - p) ++ cut b q n := by
  unfold cut
  rw [show (p + (q - p + n)).toNat = q.toNat + n.toNat from by omega, show (p + (q - p)).toNat = q.toNat from by omega, show (q + n).toNat = q.toNat + n.toNat from by omega]
  by_cases h : q.toNat ≤ b.length
  · rw [List.take_add, List.drop_append, List.length_take, List.drop_append]
    rw [show p.toNat - min q.toNat b.length = 0 from by omega]
    rw [List.drop_zero]
    congr 1
    rw [List.drop_of_length_le (l := List.take q.toNat b) (by rw [List.length_take]; omega), List.nil_append, List.length_take, show q.toNat - min q.toNat b.length = 0 from by omega, List.drop_zero]
  · rw [List.take_of_length_le (i := q.toNat) (by omega), List.take_of_length_le (by omega), List.drop_of_length_le (i := q.toNat) (by omega), List.append_nil]
end Go.Proofs.Ytkkelbakadbbhaa.Sp

set_option linter.unusedVariables false
set_option linter.unusedSimpArgs false
namespace Go.Proofs.Ytkkelbakadbbhaa.Sp
open Go.RowKit Go.Proofs.YtkkelbakadbbhaaW.PrintWords Go.Proofs.YtkkelbakadbbhaaW.PrintLast Go.Proofs.YtkkelbakadbbhaaW.PrintMore

theorem cut_mid (l c r : List Int) {q n : Int} (hq : q = (l.length : Int)) (hn : n = (c.length : Int)) : cut (l ++ (c ++ r)) q n = c := by
  subst hq; subst hn
  unfold cut
  rw [show ((l.length : Int) + (c.length : Int)).toNat = l.length + c.length from by omega, Int.toNat_natCast]
  rw [List.take_append, List.drop_append, List.take_of_length_le (by omega), List.drop_of_length_le (by omega), List.nil_append, Nat.add_sub_cancel_left, Nat.sub_self, List.drop_zero, List.take_left]
theorem rNext_at (l c p r : List Int) (hc : c.length = 4) (hp : p.length ≤ 65536) :
    rNext (l ++ (enc (code (p.length : Int)) ++ (c ++ (p ++ r)))) (l.length : Int) = if c = be4 (sum p) then (p, (l.length : Int) + ((enc (code (p.length : Int))).length : Int) + 4 + (p.length : Int), 0) else ([], 0, 4) := by
  have h1 := rNum_at l (p.length : Int) (c ++ (p ++ r)) (by omega) (by omega)
  unfold rNext
  rw [h1]
  dsimp only
  have e1 : l ++ (enc (code (p.length : Int)) ++ (c ++ (p ++ r))) = (l ++ enc (code (p.length : Int))) ++ (c ++ (p ++ r)) := by simp
  have e2 : l ++ (enc (code (p.length : Int)) ++ (c ++ (p ++ r))) = (l ++ enc (code (p.length : Int)) ++ c) ++ (p ++ r) := by simp
  have c1 : cut (l ++ (enc (code (p.length : Int)) ++ (c ++ (p ++ r)))) ((l.length : Int) + ((enc (code (p.length : Int))).length : Int)) 4 = c := by
    rw [e1]; exact cut_mid _ _ _ (by simp) (by rw [hc]; rfl)
  have c2 : pay (l ++ (enc (code (p.length : Int)) ++ (c ++ (p ++ r)))) ((l.length : Int) + ((enc (code (p.length : Int))).length : Int)) (p.length : Int) = p := by
    unfold pay
    rw [e2]; exact cut_mid _ _ _ (by simp [hc]; omega) rfl
  rw [c1, c2, if_pos rfl, if_neg (by omega), if_neg (by omega), if_neg (by simp only [List.length_append]; omega)]
theorem rNext_wrap (l p r : List Int) (hp : p.length ≤ 65536) : rNext (l ++ (wrapF p ++ r)) (l.length : Int) = (p, (l.length : Int) + ((wrapF p).length : Int), 0) := by
  have h := rNext_at l (be4 (sum p)) p r rfl hp
  rw [if_pos rfl] at h
  have e : l ++ (wrapF p ++ r) = l ++ (enc (code (p.length : Int)) ++ (be4 (sum p) ++ (p ++ r))) := by simp [wrapF]
  rw [e, h, wrapF_len]
  simp only [Prod.mk.injEq, true_and, and_true]
  omega
theorem rNext_ok {b : List Int} {p q : Int} {x : List Int} (hb : Byt b) (h : rNext b p = (x, q, 0)) :
    0 ≤ p ∧ p < q ∧ q ≤ (b.length : Int) ∧ x.length ≤ 65536 ∧ q = p + ((wrapF x).length : Int) ∧ (b.drop p.toNat).take (wrapF x).length = wrapF x ∧ Byt x := by
  unfold rNext at h
  by_cases h0 : (rNum b p).2.2 = 0
  · rw [if_pos h0] at h
    by_cases h1 : (rNum b p).1 < 0
    · rw [if_pos h1] at h; simp at h
    · rw [if_neg h1] at h
      by_cases h2 : (rNum b p).1 > 65536
      · rw [if_pos h2] at h; simp at h
      · rw [if_neg h2] at h
        by_cases h3 : (b.length : Int) - (rNum b p).2.1 < 4 + (rNum b p).1
        · rw [if_pos h3] at h; simp at h
        · rw [if_neg h3] at h
          by_cases h4 : cut b (rNum b p).2.1 4 = be4 (sum (pay b (rNum b p).2.1 (rNum b p).1))
          · rw [if_pos h4] at h
            simp only [Prod.mk.injEq, and_true] at h
            obtain ⟨rfl, rfl⟩ := h
            obtain ⟨g1, g2, g3, g4, g5, g6, g7⟩ := rNum_ok (n := (rNum b p).1) (q := (rNum b p).2.1) hb (by rw [← h0])
            generalize (rNum b p).1 = n at *
            generalize (rNum b p).2.1 = q at *
            have hl : (pay b q n).length = n.toNat := cut_length (by omega) (by omega) (by omega)
            have hw := wrapF_len (pay b q n)
            rw [hl, show ((n.toNat : Nat) : Int) = n from by omega] at hw
            refine ⟨g1, by omega, by omega, by omega, by omega, ?_, cut_byt hb _ _⟩
            have e0 : (b.drop p.toNat).take (wrapF (pay b q n)).length = cut b p (q - p + (4 + n)) := by
              unfold cut; rw [List.drop_take]; congr 1; omega
            have e1 : cut b p (q - p) = enc (code n) := by
              unfold cut
              rw [← g7, List.drop_take]; congr 1; omega
            have e2 : cut b q (4 + n) = cut b q 4 ++ pay b q n := by
              have := cut_split (b := b) (p := q) (q := q + 4) (n := n) (by omega) (by omega) (by omega)
              rw [show q + 4 - q = 4 from by omega] at this
              exact this
            rw [e0, cut_split (by omega) (by omega) (by omega), e1, e2, h4]
            unfold wrapF
            rw [hl, show ((n.toNat : Nat) : Int) = n from by omega]
          · rw [if_neg h4] at h; simp at h
  · rw [if_neg h0] at h
    simp only [Prod.mk.injEq] at h
    exact absurd h.2.2 h0
theorem rNext_zero {b : List Int} {p : Int} (h : (rNext b p).2.2 ≠ 0) : (rNext b p).1 = [] ∧ (rNext b p).2.1 = 0 := by
  unfold rNext at h ⊢
  by_cases h0 : (rNum b p).2.2 = 0
  · simp only [if_pos h0] at h ⊢
    by_cases h1 : (rNum b p).1 < 0
    · simp only [if_pos h1, and_self]
    · simp only [if_neg h1] at h ⊢
      by_cases h2 : (rNum b p).1 > 65536
      · simp only [if_pos h2, and_self]
      · simp only [if_neg h2] at h ⊢
        by_cases h3 : (b.length : Int) - (rNum b p).2.1 < 4 + (rNum b p).1
        · simp only [if_pos h3, and_self]
        · simp only [if_neg h3] at h ⊢
          by_cases h4 : cut b (rNum b p).2.1 4 = be4 (sum (pay b (rNum b p).2.1 (rNum b p).1))
          · simp only [if_pos h4] at h; exact absurd rfl h
          · simp only [if_neg h4, and_self]
  · simp only [if_neg h0, and_self]
end Go.Proofs.Ytkkelbakadbbhaa.Sp

set_option linter.unusedVariables false
set_option linter.unusedSimpArgs false
namespace Go.Proofs.Ytkkelbakadbbhaa.Sp
open Go.RowKit Go.Proofs.YtkkelbakadbbhaaW.PrintWords Go.Proofs.YtkkelbakadbbhaaW.PrintLast Go.Proofs.YtkkelbakadbbhaaW.PrintMore Go.Proofs.Ytkkelbakadbbhaa.J

def ck2 (b : Bool) (n : Int) (v : ByteArray) : Int := if b = true then 5 else if n = 1 then 0 else if v.toList = ([] : List UInt8) then 0 else 28
def ck1 (b : Bool) (n : Int) (s v : ByteArray) : Int := if b = true then 10 else if s.toList = ([] : List UInt8) then 1 else ck2 (decide ((s.size : Int) > 64 ∨ (v.size : Int) > 4096)) n v
def ck0 (b : Bool) (n : Int) (s v : ByteArray) : Int := if b = true then 1 else ck1 (decide (¬ (n = 1 ∨ n = 2 ∨ n = 3))) n s v
def chk (o n : Int) (s v : ByteArray) : Int := ck0 (decide (o < 0 ∨ o > 1099511627776)) n s v
theorem chk_zero {o n : Int} {s v : ByteArray} : chk o n s v = 0 ↔ 0 ≤ o ∧ o ≤ 1099511627776 ∧ (n = 1 ∨ n = 2 ∨ n = 3) ∧ s.toList ≠ [] ∧ s.size ≤ 64 ∧ v.size ≤ 4096 ∧ (n = 1 ∨ v.toList = []) := by
  unfold chk ck0
  by_cases h0 : o < 0 ∨ o > 1099511627776
  · rw [if_pos (by simpa using h0)]; exact ⟨fun h => absurd h (by decide), fun h => by omega⟩
  rw [if_neg (by simpa using h0)]
  unfold ck1
  by_cases h1 : n = 1 ∨ n = 2 ∨ n = 3
  · rw [if_neg (fun hh => (of_decide_eq_true hh) h1)]
    by_cases h2 : s.toList = []
    · rw [if_pos h2]; exact ⟨fun h => absurd h (by decide), fun h => absurd h2 h.2.2.2.1⟩
    rw [if_neg h2]
    unfold ck2
    by_cases h3 : (s.size : Int) > 64 ∨ (v.size : Int) > 4096
    · rw [if_pos (by simpa using h3)]; exact ⟨fun h => absurd h (by decide), fun h => by omega⟩
    rw [if_neg (by simpa using h3)]
    by_cases h4 : n = 1
    · rw [if_pos h4]; exact ⟨fun _ => ⟨by omega, by omega, h1, h2, by omega, by omega, .inl h4⟩, fun _ => rfl⟩
    rw [if_neg h4]
    by_cases h5 : v.toList = []
    · rw [if_pos h5]; exact ⟨fun _ => ⟨by omega, by omega, h1, h2, by omega, by omega, .inr h5⟩, fun _ => rfl⟩
    rw [if_neg h5]; exact ⟨fun h => absurd h (by decide), fun h => by exact absurd h.2.2.2.2.2.2 (fun hh => hh.elim h4 h5)⟩
  · rw [if_pos (decide_eq_true h1)]; exact ⟨fun h => absurd h (by decide), fun h => absurd h.2.2.1 h1⟩
theorem rec_j2 (b : Bool) (o n : Int) (s v : ByteArray) : Ev (fun k => record_Check.j2 k b o n s v) (ck2 b n v) :=
  Ev.step (f := fun _ => some (ck2 b n v)) (fun k => by simp only [record_Check.j2, ck2]; (repeat' split) <;> rfl) (Ev.now _)
theorem rec_j1 (b : Bool) (o n : Int) (s v : ByteArray) : Ev (fun k => record_Check.j1 k b o n s v) (ck1 b n s v) := by
  refine Ev.step (fun k => by simp only [record_Check.j1]; rfl) ?_
  unfold ck1
  by_cases h : b = true
  · rw [if_pos h]; exact Ev.pos h (Ev.now _)
  · rw [if_neg h]
    refine Ev.neg h ?_
    by_cases h2 : s.toList = []
    · rw [if_pos h2]; exact Ev.pos h2 (Ev.now _)
    · rw [if_neg h2]
      refine Ev.neg h2 ?_
      by_cases h3 : (s.size : Int) > 64
      · rw [decide_eq_true (Or.inl h3)]; exact Ev.pos h3 (rec_j2 _ _ _ _ _)
      · refine Ev.neg h3 ?_
        rw [show decide ((s.size : Int) > 64 ∨ (v.size : Int) > 4096) = decide ((v.size : Int) > 4096) from by simp [h3]]
        exact rec_j2 _ _ _ _ _
theorem rec_j0 (b : Bool) (o n : Int) (s v : ByteArray) : Ev (fun k => record_Check.j0 k b o n s v) (ck0 b n s v) := by
  refine Ev.step (fun k => by simp only [record_Check.j0]; rfl) ?_
  unfold ck0
  by_cases h : b = true
  · rw [if_pos h]; exact Ev.pos h (Ev.now _)
  · rw [if_neg h]
    refine Ev.neg h ?_
    by_cases h1 : n = 1
    · rw [decide_eq_false (by simp [h1])]; exact Ev.pos h1 (rec_j1 _ _ _ _ _)
    refine Ev.neg h1 ?_
    by_cases h2 : n = 2
    · rw [decide_eq_false (by simp [h2])]; exact Ev.pos h2 (rec_j1 _ _ _ _ _)
    refine Ev.neg h2 ?_
    rw [show decide (¬ (n = 1 ∨ n = 2 ∨ n = 3)) = (n != 3) from by by_cases h3 : n = 3 <;> simp [h1, h2, h3]]
    exact rec_j1 _ _ _ _ _
theorem record_Check_ev (o n : Int) (s v : ByteArray) : Ev (fun k => record_Check.f k o n s v) (chk o n s v) := by
  unfold record_Check.f chk
  by_cases h : o < 0
  · rw [decide_eq_true (Or.inl h)]; exact Ev.pos h (rec_j0 _ _ _ _ _)
  · refine Ev.neg h ?_
    rw [show decide (o < 0 ∨ o > 1099511627776) = decide (o > 1099511627776) from by simp [h]]
    exact rec_j0 _ _ _ _ _
/-! ### the framed form -/
def pld (o n : Int) (s v : ByteArray) : List Int := enc (code o) ++ (enc (code n) ++ (cat s ++ cat v))
theorem pld_byt (o n : Int) (s v : ByteArray) : Byt (pld o n s v) := (enc_byt _).append ((enc_byt _).append ((cat_byt _).append (cat_byt _)))
theorem pld_len {o n : Int} {s v : ByteArray} (h : chk o n s v = 0) : 5 ≤ (pld o n s v).length ∧ (pld o n s v).length ≤ 4200 := by
  obtain ⟨h0, h1, h2, h3, h4, h5, h6⟩ := chk_zero.1 h
  have hs : 1 ≤ s.size := by
    rcases Nat.eq_zero_or_pos s.size with hz | hz
    · exact absurd (by rw [Go.Lib.toList_data]; exact List.eq_nil_of_length_eq_zero (by simpa using hz)) h3
    · exact hz
  have a1 := enc_pos (code o); have a2 := enc_pos (code n); have a3 := enc_pos (code (s.size : Int)); have a4 := enc_pos (code (v.size : Int))
  have b1 := enc_len10 (code_lt (n := o) (by omega) (by omega)); have b2 := enc_len10 (code_lt (n := n) (by omega) (by omega)); have b3 := cat_le s (by omega); have b4 := cat_le v (by omega)
  have c3 := cat_len s; have c4 := cat_len v
  unfold pld
  simp only [List.length_append]
  omega
def rec_ (o n : Int) (s v : ByteArray) : List Int := wrapF (pld o n s v)
theorem rec_byt (o n : Int) (s v : ByteArray) : Byt (rec_ o n s v) := wrapF_byt (pld_byt _ _ _ _)
theorem rec_len {o n : Int} {s v : ByteArray} (h : chk o n s v = 0) : 10 ≤ (rec_ o n s v).length ∧ (rec_ o n s v).length ≤ 4214 := by
  have h1 := pld_len h
  have h2 := wrapF_len (pld o n s v)
  have h3 := enc_pos (code ((pld o n s v).length : Int)); have h4 := enc_len10 (code_lt (n := ((pld o n s v).length : Int)) (by omega) (by omega))
  unfold rec_
  omega
def rEnc (o n : Int) (s v : ByteArray) : List Int × Int := if chk o n s v = 0 then (rec_ o n s v, 0) else ([], chk o n s v)
theorem record_Encode_ev (o n : Int) (s v : ByteArray) : Ev (fun k => record_Encode.f k o n s v) (rEnc o n s v) := by
  unfold record_Encode.f rEnc
  refine Ev.bind (record_Check_ev o n s v) ?_
  by_cases h : chk o n s v = 0
  · rw [if_pos h]
    have hp := pld_len h
    have hr := rec_len h
    obtain ⟨h0, h1, h2, h3, h4, h5, h6⟩ := chk_zero.1 h
    have b1 := enc_len10 (code_lt (n := o) (by omega) (by omega)); have b2 := enc_len10 (code_lt (n := n) (by omega) (by omega)); have b3 := cat_le s (by omega)
    refine Ev.pos h (Ev.bind (pack_PutNum_ev [] o (by omega) (by omega) (by simp)) (Ev.bind (pack_PutNum_ev _ n (by omega) (by omega) (by simp; omega)) (Ev.bind (pack_PutText_ev _ s (by simp; omega) (by omega)) (Ev.bind (pack_PutText_ev _ v (by simp; omega) (by omega)) ?_))))
    rw [show [] ++ enc (code o) ++ enc (code n) ++ cat s ++ cat v = pld o n s v from by simp [pld]]
    refine Ev.bind (frame_Wrap_ev _ (pld_byt _ _ _ _) (by omega)) (Ev.get rfl (Ev.pos ?_ (Ev.now _)))
    show ([] : List Int).length + (rec_ o n s v).length < _
    simp; omega
  · rw [if_neg h]
    exact Ev.neg h (Ev.now _)
/-! ### reading a record -/
def rDec (b : List Int) (p : Int) : Int × Int × ByteArray × ByteArray × Int × Int :=
  if (rNext b p).2.2 = 0 then
    if (rNum (rNext b p).1 0).2.2 = 0 then
      if (rNum (rNext b p).1 (rNum (rNext b p).1 0).2.1).2.2 = 0 then
        if (rText (rNext b p).1 (rNum (rNext b p).1 (rNum (rNext b p).1 0).2.1).2.1 64).2.2 = 0 then
          if (rText (rNext b p).1 (rText (rNext b p).1 (rNum (rNext b p).1 (rNum (rNext b p).1 0).2.1).2.1 64).2.1 4096).2.2 = 0 then
            if (rText (rNext b p).1 (rText (rNext b p).1 (rNum (rNext b p).1 (rNum (rNext b p).1 0).2.1).2.1 64).2.1 4096).2.1 < ((rNext b p).1.length : Int) then (0, 0, (⟨#[]⟩ : ByteArray), (⟨#[]⟩ : ByteArray), 0, 2)
            else if chk (rNum (rNext b p).1 0).1 (rNum (rNext b p).1 (rNum (rNext b p).1 0).2.1).1 (rText (rNext b p).1 (rNum (rNext b p).1 (rNum (rNext b p).1 0).2.1).2.1 64).1 (rText (rNext b p).1 (rText (rNext b p).1 (rNum (rNext b p).1 (rNum (rNext b p).1 0).2.1).2.1 64).2.1 4096).1 = 0
              then ((rNum (rNext b p).1 0).1, (rNum (rNext b p).1 (rNum (rNext b p).1 0).2.1).1, (rText (rNext b p).1 (rNum (rNext b p).1 (rNum (rNext b p).1 0).2.1).2.1 64).1, (rText (rNext b p).1 (rText (rNext b p).1 (rNum (rNext b p).1 (rNum (rNext b p).1 0).2.1).2.1 64).2.1 4096).1, (rNext b p).2.1, 0)
              else (0, 0, (⟨#[]⟩ : ByteArray), (⟨#[]⟩ : ByteArray), 0, chk (rNum (rNext b p).1 0).1 (rNum (rNext b p).1 (rNum (rNext b p).1 0).2.1).1 (rText (rNext b p).1 (rNum (rNext b p).1 (rNum (rNext b p).1 0).2.1).2.1 64).1 (rText (rNext b p).1 (rText (rNext b p).1 (rNum (rNext b p).1 (rNum (rNext b p).1 0).2.1).2.1 64).2.1 4096).1)
          else (0, 0, (⟨#[]⟩ : ByteArray), (⟨#[]⟩ : ByteArray), 0, (rText (rNext b p).1 (rText (rNext b p).1 (rNum (rNext b p).1 (rNum (rNext b p).1 0).2.1).2.1 64).2.1 4096).2.2)
        else (0, 0, (⟨#[]⟩ : ByteArray), (⟨#[]⟩ : ByteArray), 0, (rText (rNext b p).1 (rNum (rNext b p).1 (rNum (rNext b p).1 0).2.1).2.1 64).2.2)
      else (0, 0, (⟨#[]⟩ : ByteArray), (⟨#[]⟩ : ByteArray), 0, (rNum (rNext b p).1 (rNum (rNext b p).1 0).2.1).2.2)
    else (0, 0, (⟨#[]⟩ : ByteArray), (⟨#[]⟩ : ByteArray), 0, (rNum (rNext b p).1 0).2.2)
  else (0, 0, (⟨#[]⟩ : ByteArray), (⟨#[]⟩ : ByteArray), 0, (rNext b p).2.2)
theorem rNext_byt {b : List Int} (hb : Byt b) (p : Int) : Byt (rNext b p).1 ∧ (rNext b p).1.length ≤ 65536 := by
  by_cases h : (rNext b p).2.2 = 0
  · obtain ⟨g1, g2, g3, g4, g5, g6, g7⟩ := rNext_ok (p := p) (x := (rNext b p).1) (q := (rNext b p).2.1) hb (Prod.ext rfl (Prod.ext rfl h))
    exact ⟨g7, g4⟩
  · rw [(rNext_zero h).1]; exact ⟨Byt.nil, by simp⟩
theorem record_Decode_ev (b : List Int) (hb : Byt b) (hlen : b.length ≤ 4611686018427387) (p : Int) : Ev (fun k => record_Decode.f k b p) (rDec b p) := by
  unfold record_Decode.f rDec
  refine Ev.bind (frame_Next_ev b hb hlen p) ?_
  obtain ⟨hx, hl⟩ := rNext_byt hb p
  by_cases h0 : (rNext b p).2.2 = 0
  · simp only [if_pos h0]
    refine Ev.bind (pack_Num_ev _ hx (by omega) 0) ?_
    by_cases h1 : (rNum (rNext b p).1 0).2.2 = 0
    · simp only [if_pos h1]
      refine Ev.bind (pack_Num_ev _ hx (by omega) _) ?_
      by_cases h2 : (rNum (rNext b p).1 (rNum (rNext b p).1 0).2.1).2.2 = 0
      · simp only [if_pos h2]
        refine Ev.bind (pack_Text_ev _ hx (by omega) _ _) ?_
        by_cases h3 : (rText (rNext b p).1 (rNum (rNext b p).1 (rNum (rNext b p).1 0).2.1).2.1 64).2.2 = 0
        · simp only [if_pos h3]
          refine Ev.bind (pack_Text_ev _ hx (by omega) _ _) ?_
          by_cases h4 : (rText (rNext b p).1 (rText (rNext b p).1 (rNum (rNext b p).1 (rNum (rNext b p).1 0).2.1).2.1 64).2.1 4096).2.2 = 0
          · simp only [if_pos h4]
            by_cases h5 : (rText (rNext b p).1 (rText (rNext b p).1 (rNum (rNext b p).1 (rNum (rNext b p).1 0).2.1).2.1 64).2.1 4096).2.1 < ((rNext b p).1.length : Int)
            · simp only [if_pos h5]; exact Ev.now _
            · simp only [if_neg h5]
              refine Ev.bind (record_Check_ev _ _ _ _) ?_
              split
              · exact Ev.now _
              · exact Ev.now _
          · simp only [if_neg h4]; exact Ev.now _
        · simp only [if_neg h3]; exact Ev.now _
      · simp only [if_neg h2]; exact Ev.now _
    · simp only [if_neg h1]; exact Ev.now _
  · simp only [if_neg h0]; exact Ev.now _
theorem rDec_pld {b : List Int} {p q : Int} {o n : Int} {s v : ByteArray} (hc : chk o n s v = 0) (h : rNext b p = (pld o n s v, q, 0)) : rDec b p = (o, n, s, v, q, 0) := by
  obtain ⟨h0, h1, h2, h3, h4, h5, h6⟩ := chk_zero.1 hc
  have e1 : rNum (pld o n s v) 0 = (o, ((enc (code o)).length : Int), 0) := by
    have := rNum_at [] o (enc (code n) ++ (cat s ++ cat v)) (by omega) (by omega)
    simpa [pld] using this
  have e2 : rNum (pld o n s v) ((enc (code o)).length : Int) = (n, ((enc (code o)).length : Int) + ((enc (code n)).length : Int), 0) := rNum_at (enc (code o)) n (cat s ++ cat v) (by omega) (by omega)
  have e3 : rText (pld o n s v) (((enc (code o)).length : Int) + ((enc (code n)).length : Int)) 64 = (s, ((enc (code o)).length : Int) + ((enc (code n)).length : Int) + ((cat s).length : Int), 0) := by
    have := rText_at (enc (code o) ++ enc (code n)) s (cat v) 64 (by omega) (by omega)
    simpa [pld, Int.natCast_add] using this
  have e4 : rText (pld o n s v) (((enc (code o)).length : Int) + ((enc (code n)).length : Int) + ((cat s).length : Int)) 4096 = (v, ((enc (code o)).length : Int) + ((enc (code n)).length : Int) + ((cat s).length : Int) + ((cat v).length : Int), 0) := by
    have := rText_at (enc (code o) ++ (enc (code n) ++ cat s)) v [] 4096 (by omega) (by omega)
    simpa [pld, Int.natCast_add, Int.add_assoc] using this
  have hl : ((pld o n s v).length : Int) = ((enc (code o)).length : Int) + ((enc (code n)).length : Int) + ((cat s).length : Int) + ((cat v).length : Int) := by unfold pld; simp only [List.length_append]; omega
  unfold rDec
  rw [h]
  dsimp only
  rw [if_pos rfl, e1]
  dsimp only
  rw [if_pos rfl, e2]
  dsimp only
  rw [if_pos rfl, e3]
  dsimp only
  rw [if_pos rfl, e4]
  dsimp only
  rw [if_pos rfl, if_neg (by omega), if_pos hc]
theorem rDec_at (l r : List Int) {o n : Int} {s v : ByteArray} (hc : chk o n s v = 0) : rDec (l ++ (rec_ o n s v ++ r)) (l.length : Int) = (o, n, s, v, (l.length : Int) + ((rec_ o n s v).length : Int), 0) :=
  rDec_pld hc (rNext_wrap l (pld o n s v) r (by have := pld_len hc; omega))
theorem rDec_err {b : List Int} {p : Int} (h : (rNext b p).2.2 ≠ 0) : rDec b p = (0, 0, (⟨#[]⟩ : ByteArray), (⟨#[]⟩ : ByteArray), 0, (rNext b p).2.2) := by unfold rDec; rw [if_neg h]
theorem take_app {b a c : List Int} {i j : Nat} (h1 : (b.drop i).take a.length = a) (h2 : (b.drop (i + a.length)).take c.length = c) : (b.drop i).take (a.length + c.length) = a ++ c := by
  rw [List.take_add, h1, List.drop_drop, h2]
theorem rDec_ok {b : List Int} {p o n q : Int} {s v : ByteArray} (hb : Byt b) (h : rDec b p = (o, n, s, v, q, 0)) :
    0 ≤ p ∧ q ≤ (b.length : Int) ∧ chk o n s v = 0 ∧ q = p + ((rec_ o n s v).length : Int) ∧ (b.drop p.toNat).take (rec_ o n s v).length = rec_ o n s v := by
  by_cases h0 : (rNext b p).2.2 = 0
  · obtain ⟨g1, g2, g3, g4, g5, g6, g7⟩ := rNext_ok (p := p) (x := (rNext b p).1) (q := (rNext b p).2.1) hb (Prod.ext rfl (Prod.ext rfl h0))
    unfold rDec at h
    rw [if_pos h0] at h
    generalize (rNext b p).1 = x at *
    generalize (rNext b p).2.1 = q' at *
    by_cases h1 : (rNum x 0).2.2 = 0
    · rw [if_pos h1] at h
      by_cases h2 : (rNum x (rNum x 0).2.1).2.2 = 0
      · rw [if_pos h2] at h
        by_cases h3 : (rText x (rNum x (rNum x 0).2.1).2.1 64).2.2 = 0
        · rw [if_pos h3] at h
          by_cases h4 : (rText x (rText x (rNum x (rNum x 0).2.1).2.1 64).2.1 4096).2.2 = 0
          · rw [if_pos h4] at h
            by_cases h5 : (rText x (rText x (rNum x (rNum x 0).2.1).2.1 64).2.1 4096).2.1 < (x.length : Int)
            · rw [if_pos h5] at h; simp at h
            · rw [if_neg h5] at h
              by_cases h6 : chk (rNum x 0).1 (rNum x (rNum x 0).2.1).1 (rText x (rNum x (rNum x 0).2.1).2.1 64).1 (rText x (rText x (rNum x (rNum x 0).2.1).2.1 64).2.1 4096).1 = 0
              · rw [if_pos h6] at h
                simp only [Prod.mk.injEq] at h
                obtain ⟨k1, k2, k3, k4, k5, _⟩ := h
                obtain ⟨a1, a2, a3, a4, a5, a6, a7⟩ := rNum_ok (p := 0) (n := (rNum x 0).1) (q := (rNum x 0).2.1) g7 (Prod.ext rfl (Prod.ext rfl h1))
                obtain ⟨b1, b2, b3, b4, b5, b6, b7⟩ := rNum_ok (n := (rNum x (rNum x 0).2.1).1) (q := (rNum x (rNum x 0).2.1).2.1) g7 (Prod.ext rfl (Prod.ext rfl h2))
                obtain ⟨c1, c2, c3, c4, c5, c6⟩ := rText_ok (s := (rText x (rNum x (rNum x 0).2.1).2.1 64).1) (q := (rText x (rNum x (rNum x 0).2.1).2.1 64).2.1) g7 (Prod.ext rfl (Prod.ext rfl h3))
                obtain ⟨d1, d2, d3, d4, d5, d6⟩ := rText_ok (s := (rText x (rText x (rNum x (rNum x 0).2.1).2.1 64).2.1 4096).1) (q := (rText x (rText x (rNum x (rNum x 0).2.1).2.1 64).2.1 4096).2.1) g7 (Prod.ext rfl (Prod.ext rfl h4))
                generalize (rText x (rText x (rNum x (rNum x 0).2.1).2.1 64).2.1 4096).1 = y4 at *
                generalize (rText x (rText x (rNum x (rNum x 0).2.1).2.1 64).2.1 4096).2.1 = q4 at *
                generalize (rText x (rNum x (rNum x 0).2.1).2.1 64).1 = y3 at *
                generalize (rText x (rNum x (rNum x 0).2.1).2.1 64).2.1 = q3 at *
                generalize (rNum x (rNum x 0).2.1).1 = y2 at *
                generalize (rNum x (rNum x 0).2.1).2.1 = q2 at *
                generalize (rNum x 0).1 = y1 at *
                generalize (rNum x 0).2.1 = q1 at *
                subst k1; subst k2; subst k3; subst k4; subst k5
                have e : x = pld y1 y2 y3 y4 := by
                  rw [show (0 : Int).toNat = 0 from rfl] at a7
                  rw [show q1.toNat = 0 + (enc (code y1)).length from by omega] at b7
                  rw [show q2.toNat = 0 + (enc (code y1) ++ enc (code y2)).length from by rw [List.length_append]; omega] at c6
                  rw [show q3.toNat = 0 + (enc (code y1) ++ enc (code y2) ++ cat y3).length from by simp only [List.length_append]; omega] at d6
                  have t1 := take_app (j := 0) a7 b7
                  rw [← List.length_append] at t1
                  have t2 := take_app (j := 0) t1 c6
                  rw [← List.length_append] at t2
                  have t3 := take_app (j := 0) t2 d6
                  rw [← List.length_append, List.drop_zero, List.take_of_length_le (by simp only [List.length_append]; omega)] at t3
                  rw [t3]; simp [pld]
                subst e
                exact ⟨g1, g3, h6, g5, g6⟩
              · rw [if_neg h6] at h; simp only [Prod.mk.injEq] at h; exact absurd h.2.2.2.2.2 h6
          · rw [if_neg h4] at h; simp only [Prod.mk.injEq] at h; exact absurd h.2.2.2.2.2 h4
        · rw [if_neg h3] at h; simp only [Prod.mk.injEq] at h; exact absurd h.2.2.2.2.2 h3
      · rw [if_neg h2] at h; simp only [Prod.mk.injEq] at h; exact absurd h.2.2.2.2.2 h2
    · rw [if_neg h1] at h; simp only [Prod.mk.injEq] at h; exact absurd h.2.2.2.2.2 h1
  · rw [rDec_err h0] at h; simp only [Prod.mk.injEq] at h; exact absurd h.2.2.2.2.2 h0
end Go.Proofs.Ytkkelbakadbbhaa.Sp

set_option linter.unusedVariables false
set_option linter.unusedSimpArgs false
namespace Go.Proofs.Ytkkelbakadbbhaa.Sp
open Go.RowKit Go.Proofs.YtkkelbakadbbhaaW.PrintWords Go.Proofs.YtkkelbakadbbhaaW.PrintLast Go.Proofs.YtkkelbakadbbhaaW.PrintMore Go.Proofs.Ytkkelbakadbbhaa.J

end Go.Proofs.Ytkkelbakadbbhaa.Sp

set_option linter.unusedVariables false
set_option linter.unusedSimpArgs false
namespace Go.Proofs.Ytkkelbakadbbhaa.Sp
open Go.RowKit Go.Proofs.YtkkelbakadbbhaaW.PrintWords Go.Proofs.YtkkelbakadbbhaaW.PrintLast Go.Proofs.YtkkelbakadbbhaaW.PrintMore Go.Proofs.Ytkkelbakadbbhaa.J

abbrev RV := Int × ByteArray × ByteArray
def segB : Int → List RV → List Int
  | _, [] => []
  | o, (n, s, v) :: r => rec_ o n s v ++ segB (o + 1) r
def okL : Int → List RV → Prop
  | _, [] => True
  | o, (n, s, v) :: r => chk o n s v = 0 ∧ okL (o + 1) r
def recL : Int → List RV → List S23
  | _, [] => []
  | o, (n, s, v) :: r => (⟨o, n, s, v⟩ : S23) :: recL (o + 1) r
theorem recL_len : ∀ (L : List RV) (o : Int), (recL o L).length = L.length
  | [], _ => rfl
  | (_, _, _) :: r, o => by simp [recL, recL_len r]
theorem segB_app : ∀ (L M : List RV) (o : Int), segB o (L ++ M) = segB o L ++ segB (o + L.length) M
  | [], M, o => by simp [segB]
  | (n, s, v) :: r, M, o => by
    simp only [segB, List.cons_append, List.append_assoc, segB_app r M (o + 1), List.length_cons]
    rw [show o + 1 + (r.length : Int) = o + ((r.length + 1 : Nat) : Int) from by omega]
theorem okL_app : ∀ (L M : List RV) (o : Int), okL o (L ++ M) ↔ okL o L ∧ okL (o + L.length) M
  | [], M, o => by simp [okL]
  | (n, s, v) :: r, M, o => by
    simp only [okL, List.cons_append, okL_app r M (o + 1), List.length_cons]
    rw [show o + 1 + (r.length : Int) = o + ((r.length + 1 : Nat) : Int) from by omega, and_assoc]
theorem segB_byt : ∀ (L : List RV) (o : Int), Byt (segB o L)
  | [], _ => Byt.nil
  | (n, s, v) :: r, o => (rec_byt _ _ _ _).append (segB_byt r _)

/-! ### which segments are valid -/
def ckS (b : List Int) (nx : Int) : Nat → Int → Int → Int
  | 0, _, _ => 0
  | d + 1, n, p => if p < (b.length : Int) then (if (rDec b p).2.2.2.2.2 = 0 then (if (rDec b p).1 = n then ckS b nx d (n + 1) (rDec b p).2.2.2.2.1 else 22) else (rDec b p).2.2.2.2.2) else if nx = n then 0 else 1
theorem rDec_all {b : List Int} {p : Int} (h : (rDec b p).2.2.2.2.2 = 0) : rDec b p = ((rDec b p).1, (rDec b p).2.1, (rDec b p).2.2.1, (rDec b p).2.2.2.1, (rDec b p).2.2.2.2.1, 0) :=
  Prod.ext rfl (Prod.ext rfl (Prod.ext rfl (Prod.ext rfl (Prod.ext rfl h))))
theorem rDec_next {b : List Int} {p : Int} (hb : Byt b) (h : (rDec b p).2.2.2.2.2 = 0) : 0 ≤ p ∧ p + 10 ≤ (rDec b p).2.2.2.2.1 ∧ (rDec b p).2.2.2.2.1 ≤ (b.length : Int) ∧ 0 ≤ (rDec b p).1 ∧ (rDec b p).1 ≤ 1099511627776 := by
  obtain ⟨g1, g2, g3, g4, g5⟩ := rDec_ok hb (rDec_all h)
  have := rec_len g3
  obtain ⟨h0, h1, _⟩ := chk_zero.1 g3
  exact ⟨g1, by omega, g2, h0, h1⟩
theorem segment_Check_l0 (b : List Int) (hb : Byt b) (hlen : b.length ≤ 4611686018427387) (nx base : Int) : ∀ (d : Nat) (n p : Int), 0 ≤ p → p ≤ (b.length : Int) → (b.length : Int) - p < d → 0 ≤ n → n + d ≤ 4611686018427387904 → Ev (fun k => segment_Check.l0 k n p base nx b) (ckS b nx d n p) := by
  intro d
  induction d with
  | zero => intro n p h0 hl h1 _ _; omega
  | succ d ih =>
    intro n p h0 hl h1 h2 h3
    refine Ev.step (fun k => by simp only [segment_Check.l0]; rfl) ?_
    unfold ckS
    by_cases hp : p < (b.length : Int)
    · rw [if_pos hp]
      refine Ev.pos hp (Ev.bind (record_Decode_ev b hb hlen p) ?_)
      by_cases he : (rDec b p).2.2.2.2.2 = 0
      · obtain ⟨_, g2, g3, _⟩ := rDec_next hb he
        rw [if_pos he]
        refine Ev.pos he ?_
        by_cases hn : (rDec b p).1 = n
        · rw [if_pos hn, wrap64_in (by omega) (by omega)]
          exact Ev.pos hn (ih _ _ (by omega) g3 (by omega) (by omega) (by omega))
        · rw [if_neg hn]; exact Ev.neg hn (Ev.now _)
      · rw [if_neg he]; exact Ev.neg he (Ev.now _)
    · rw [if_neg hp]
      refine Ev.neg hp ?_
      by_cases hn : nx = n
      · simp only [if_pos hn]; exact Ev.now _
      · simp only [if_neg hn]; exact Ev.now _
def sChk (base nx : Int) (b : List Int) : Int := if base < 0 then 1 else if base > 1099511627776 then 1 else if (b.length : Int) > 65536 then 5 else ckS b nx (b.length + 1) base 0
theorem segment_Check_ev (b : List Int) (hb : Byt b) (hlen : b.length ≤ 4611686018427387) (base nx : Int) : Ev (fun k => segment_Check.f k base nx b) (sChk base nx b) := by
  unfold segment_Check.f sChk
  by_cases h0 : base < 0
  · rw [if_pos h0]
    exact Ev.pos h0 (Ev.step (fun k => by simp only [segment_Check.j0, if_true]) (Ev.now _))
  rw [if_neg h0]
  refine Ev.neg h0 (Ev.step (fun k => by simp only [segment_Check.j0]; rfl) ?_)
  by_cases h1 : base > 1099511627776
  · rw [if_pos h1]; exact Ev.pos (decide_eq_true h1) (Ev.now _)
  rw [if_neg h1]
  refine Ev.neg (by simpa using h1) ?_
  by_cases h2 : (b.length : Int) > 65536
  · rw [if_pos h2]; exact Ev.pos h2 (Ev.now _)
  rw [if_neg h2]
  exact Ev.neg h2 (segment_Check_l0 b hb hlen nx base _ _ _ (by omega) (by omega) (by omega) (by omega) (by omega))
theorem rDec_seg (pre r : List Int) {o n : Int} {s v : ByteArray} {L : List RV} (h : okL o ((n, s, v) :: L)) : rDec (pre ++ segB o ((n, s, v) :: L) ++ r) (pre.length : Int) = (o, n, s, v, (pre.length : Int) + ((rec_ o n s v).length : Int), 0) := by
  have := rDec_at pre (segB (o + 1) L ++ r) h.1
  rw [← this]; congr 1; simp [segB]
theorem ckS_of (b : List Int) : ∀ (L : List RV) (d : Nat) (n : Int) (pre : List Int), okL n L → b = pre ++ segB n L → (b.length : Int) - (pre.length : Int) < d → ckS b (n + (L.length : Int)) d n (pre.length : Int) = 0
  | [], d, n, pre, _, he, hd => by
    cases d with
    | zero => exact rfl
    | succ d =>
      unfold ckS
      rw [if_neg (by rw [he]; simp [segB]), if_pos (by simp)]
  | (kd, s, v) :: L, d, n, pre, hk, he, hd => by
    cases d with
    | zero => exact rfl
    | succ d =>
      have hr := rec_len hk.1
      have hl : b.length = pre.length + ((rec_ n kd s v).length + (segB (n + 1) L).length) := by rw [he]; simp [segB]
      have hdec := rDec_seg pre [] hk
      rw [List.append_nil, ← he] at hdec
      unfold ckS
      rw [hdec]
      dsimp only
      rw [if_pos (by omega), if_pos rfl, if_pos rfl]
      have := ckS_of b L d (n + 1) (pre ++ rec_ n kd s v) hk.2 (by rw [he]; simp [segB]) (by simp only [List.length_append]; omega)
      simp only [List.length_append, Int.natCast_add] at this
      rw [← this]
      simp only [List.length_cons]
      congr 1
      omega
theorem sChk_of {base : Int} {L : List RV} (h0 : 0 ≤ base) (h1 : base ≤ 1099511627776) (hk : okL base L) (hl : (segB base L).length ≤ 65536) : sChk base (base + (L.length : Int)) (segB base L) = 0 := by
  unfold sChk
  rw [if_neg (by omega), if_neg (by omega), if_neg (by omega)]
  exact ckS_of (segB base L) L _ base [] hk rfl (by simp; omega)

/-! ### one record more -/
theorem segment_owned_eq (l0 l1 : List Int) (h : l0.length + l1.length ≤ 140737488355328) : segment_owned.f l0 l1 = some (l0 ++ l1) := by unfold segment_owned.f; rw [if_pos (by omega)]
def sApp (base nx : Int) (b : List Int) (n : Int) (s v : ByteArray) : Int × Int × List Int × Int × Int :=
  if chk nx n s v = 0 then (if (b.length : Int) + ((rec_ nx n s v).length : Int) > 65536 then (0, 0, [], 0, 6) else (base, nx + 1, b ++ rec_ nx n s v, nx, 0)) else (0, 0, [], 0, chk nx n s v)
theorem segment_Append_ev (base nx : Int) (b : List Int) (n : Int) (s v : ByteArray) (hl : b.length ≤ 1099511627776) : Ev (fun k => segment_Append.f k base nx b n s v) (sApp base nx b n s v) := by
  unfold segment_Append.f sApp
  refine Ev.bind (record_Encode_ev nx n s v) ?_
  unfold rEnc
  by_cases h : chk nx n s v = 0
  · have hr := rec_len h
    obtain ⟨h0, h1, _⟩ := chk_zero.1 h
    simp only [if_pos h]
    rw [wrap64_in (n := (b.length : Int) + ((rec_ nx n s v).length : Int)) (by omega) (by omega), wrap64_in (n := nx + 1) (by omega) (by omega)]
    refine Ev.pos trivial ?_
    by_cases h2 : (b.length : Int) + ((rec_ nx n s v).length : Int) > 65536
    · simp only [if_pos h2]; exact Ev.now _
    · simp only [if_neg h2]; exact Ev.get (segment_owned_eq b (rec_ nx n s v) (by omega)) (Ev.now _)
  · simp only [if_neg h]
    exact Ev.now _
end Go.Proofs.Ytkkelbakadbbhaa.Sp

set_option linter.unusedVariables false
set_option linter.unusedSimpArgs false
namespace Go.Proofs.Ytkkelbakadbbhaa.Sp
open Go.RowKit Go.Proofs.YtkkelbakadbbhaaW.PrintWords Go.Proofs.YtkkelbakadbbhaaW.PrintLast Go.Proofs.YtkkelbakadbbhaaW.PrintMore Go.Proofs.Ytkkelbakadbbhaa.J

theorem seg_head {b pre : List Int} {o n : Int} {s v : ByteArray} {L : List RV} (hk : okL o ((n, s, v) :: L)) (he : b = pre ++ segB o ((n, s, v) :: L)) :
    (pre.length : Int) < (b.length : Int) ∧ rDec b (pre.length : Int) = (o, n, s, v, ((pre ++ rec_ o n s v).length : Int), 0) ∧ b = (pre ++ rec_ o n s v) ++ segB (o + 1) L := by
  have hr := rec_len hk.1
  have hl : b.length = pre.length + ((rec_ o n s v).length + (segB (o + 1) L).length) := by rw [he]; simp [segB]
  have hdec := rDec_seg pre [] hk
  rw [List.append_nil, ← he] at hdec
  refine ⟨by omega, ?_, by rw [he]; simp [segB]⟩
  rw [hdec]; simp
theorem seg_end {b pre : List Int} {o : Int} (he : b = pre ++ segB o []) : ¬ (pre.length : Int) < (b.length : Int) := by rw [he]; simp [segB]

/-! ### the records -/
theorem segment_Records_l0 (b : List Int) (hb : Byt b) (hlen : b.length ≤ 4611686018427387) (base nx : Int) : ∀ (L : List RV) (n : Int) (pre : List Int) (acc : List S23), okL n L → b = pre ++ segB n L → acc.length + L.length < 2932031007402 → Ev (fun k => segment_Records.l0 k acc (pre.length : Int) base nx b) (acc ++ recL n L)
  | [], n, pre, acc, hk, he, ha => by
    refine Ev.step (fun k => by simp only [segment_Records.l0]; rfl) ?_
    refine Ev.neg (seg_end he) ?_
    simp only [recL, List.append_nil]
    exact Ev.now _
  | (kd, s, v) :: L, n, pre, acc, hk, he, ha => by
    obtain ⟨h1, h2, h3⟩ := seg_head hk he
    simp only [List.length_cons] at ha
    refine Ev.step (fun k => by simp only [segment_Records.l0]; rfl) ?_
    refine Ev.pos h1 (Ev.bind (record_Decode_ev b hb hlen _) ?_)
    rw [h2]
    refine Ev.pos rfl (Ev.pos (by omega) ?_)
    have := segment_Records_l0 b hb hlen base nx L (n + 1) (pre ++ rec_ n kd s v) (acc ++ [⟨n, kd, s, v⟩]) hk.2 h3 (by simp; omega)
    simpa [recL] using this
theorem segment_Records_ev {b : List Int} (hb : Byt b) (hlen : b.length ≤ 4611686018427387) {base : Int} (nx : Int) {L : List RV} (hk : okL base L) (he : b = segB base L) (ha : L.length < 2932031007402) : Ev (fun k => segment_Records.f k base nx b) (recL base L) :=
  segment_Records_l0 b hb hlen base nx L base [] [] hk he (by simpa using ha)
theorem ref31_Same_l0 (l : List S23) (hl : l.length ≤ 4611686018427387904) : ∀ (d i : Nat), i + d = l.length → Ev (fun k => brokerref31_Same.l0 k l l (i : Int)) true := by
  intro d
  induction d with
  | zero =>
    intro i hi
    refine Ev.step (fun k => by simp only [brokerref31_Same.l0]; rfl) ?_
    exact Ev.neg (by omega) (Ev.now _)
  | succ d ih =>
    intro i hi
    refine Ev.step (fun k => by simp only [brokerref31_Same.l0]; rfl) ?_
    refine Ev.pos (by omega) (Ev.pos (by omega) (Ev.pos (by omega) (Ev.neg (by simp) ?_)))
    rw [wrap64_in (by omega) (by omega)]
    exact ih (i + 1) (by omega)
theorem ref31_Same_self (l : List S23) (hl : l.length ≤ 4611686018427387904) : Ev (fun k => brokerref31_Same.f k l l) true := by
  unfold brokerref31_Same.f
  exact Ev.pos rfl (ref31_Same_l0 l hl l.length 0 (by omega))

theorem rdR_at (l : List S23) (i : Nat) (h : i < l.length) : rd_T23 l (i : Int) = l[i] := by simp [rd_T23, List.getD_eq_getElem?_getD, List.getElem?_eq_getElem h]
end Go.Proofs.Ytkkelbakadbbhaa.Sp

set_option linter.unusedVariables false
set_option linter.unusedSimpArgs false
namespace Go.Proofs.Ytkkelbakadbbhaa.Sp
open Go.RowKit Go.Proofs.YtkkelbakadbbhaaW.PrintWords Go.Proofs.YtkkelbakadbbhaaW.PrintLast Go.Proofs.YtkkelbakadbbhaaW.PrintMore Go.Proofs.Ytkkelbakadbbhaa.J
theorem awake32 : Ev (fun k => brokerlaw32_awake.f k) true := Ev.of (fun k => brokerlaw32_awake.mono k) (k := 60) (by kernel_rfl)
theorem few32_l0 (l : List S23) (hl : l.length ≤ 4611686018427387904) : ∀ (d i : Nat), i + d = l.length → ∃ r, Ev (fun k => brokerlaw32_few.l0 k l (i : Int)) r ∧ (r = true → ∀ j, i ≤ j → (h : j < l.length) → (l[j]).f2.size ≤ 100 ∧ (l[j]).f3.size ≤ 200) := by
  intro d
  induction d with
  | zero =>
    intro i hi
    exact ⟨true, Ev.step (fun k => by simp only [brokerlaw32_few.l0]; rfl) (Ev.neg (by omega) (Ev.now _)), fun _ j h1 h2 => by omega⟩
  | succ d ih =>
    intro i hi
    have hil : i < l.length := by omega
    obtain ⟨r, hr, hs⟩ := ih (i + 1) (by omega)
    by_cases h2 : (((l[i]).f2).size : Int) > 100
    · refine ⟨false, Ev.step (fun k => by simp only [brokerlaw32_few.l0]; rfl) (Ev.pos (by omega) (Ev.pos (by omega) ?_)), by simp⟩
      rw [rdR_at l i hil]; exact Ev.pos h2 (Ev.now _)
    by_cases h3 : (((l[i]).f3).size : Int) > 200
    · refine ⟨false, Ev.step (fun k => by simp only [brokerlaw32_few.l0]; rfl) (Ev.pos (by omega) (Ev.pos (by omega) ?_)), by simp⟩
      rw [rdR_at l i hil]; exact Ev.neg h2 (Ev.pos h3 (Ev.now _))
    refine ⟨r, Ev.step (fun k => by simp only [brokerlaw32_few.l0]; rfl) (Ev.pos (by omega) (Ev.pos (by omega) ?_)), fun h j h4 h5 => ?_⟩
    · rw [rdR_at l i hil, wrap64_in (by omega) (by omega)]
      exact Ev.neg h2 (Ev.neg h3 hr)
    · rcases Nat.eq_or_lt_of_le h4 with rfl | h4
      · exact ⟨by omega, by omega⟩
      · exact hs h j h4 h5
theorem few32_ev (l : List S23) (hl : l.length ≤ 4611686018427387904) : ∃ r, Ev (fun k => brokerlaw32_few.f k l) r ∧ (r = true → l.length ≤ 16 ∧ ∀ j, (h : j < l.length) → (l[j]).f2.size ≤ 100 ∧ (l[j]).f3.size ≤ 200) := by
  unfold brokerlaw32_few.f
  by_cases h : (l.length : Int) > 16
  · exact ⟨false, Ev.pos h (Ev.now _), by simp⟩
  · obtain ⟨r, hr, hs⟩ := few32_l0 l hl l.length 0 (by omega)
    exact ⟨r, Ev.neg h hr, fun ht => ⟨by omega, fun j hj => hs ht j (by omega) hj⟩⟩
end Go.Proofs.Ytkkelbakadbbhaa.Sp

set_option linter.unusedVariables false
set_option linter.unusedSimpArgs false
namespace Go.Proofs.Ytkkelbakadbbhaa.Pure
open Go.RowKit Go.Proofs.YtkkelbakadbbhaaW.PrintWords Go.Proofs.YtkkelbakadbbhaaW.PrintLast Go.Proofs.YtkkelbakadbbhaaW.PrintMore Go.Proofs.Ytkkelbakadbbhaa.J Go.Proofs.Ytkkelbakadbbhaa.Sp
theorem recL_app : ∀ (L M : List RV) (o : Int), recL o (L ++ M) = recL o L ++ recL (o + L.length) M
  | [], M, o => by simp [recL]
  | (n, s, v) :: r, M, o => by
    simp only [recL, List.cons_append, recL_app r M (o + 1), List.length_cons]
    rw [show o + 1 + (r.length : Int) = o + ((r.length + 1 : Nat) : Int) from by omega]
theorem back_l0 (x0 : Int) (h0 : 0 ≤ x0) (h1 : x0 ≤ 1099511627760) (l : List S23) (hl : l.length ≤ 16) : ∀ (d i : Nat) (W : List RV), i + d = l.length → W.length ≤ i → okL x0 W → (segB x0 W).length ≤ 65536 → Ev (fun k => brokerlaw32_SegmentBack.l0 k x0 l (recL x0 W) (i : Int) x0 (x0 + (W.length : Int)) (segB x0 W)) true := by
  intro d
  induction d with
  | zero =>
    intro i W hi hW hk hs
    refine Ev.step (fun k => by simp only [brokerlaw32_SegmentBack.l0]; rfl) ?_
    refine Ev.neg (by omega) (Ev.bind (segment_Check_ev _ (segB_byt _ _) (by omega) _ _) ?_)
    rw [sChk_of h0 (by omega) hk hs]
    exact Ev.pos rfl (Ev.bind (segment_Records_ev (segB_byt _ _) (by omega) _ hk rfl (by omega)) (Ev.bind (ref31_Same_self _ (by rw [recL_len]; omega)) (Ev.pos rfl (Ev.bind awake32 (Ev.now _)))))
  | succ d ih =>
    intro i W hi hW hk hs
    have hil : i < l.length := by omega
    refine Ev.step (fun k => by simp only [brokerlaw32_SegmentBack.l0]; rfl) ?_
    refine Ev.pos (by omega) (Ev.pos (by omega) (Ev.bind (segment_Append_ev _ _ _ _ _ _ (by omega)) ?_))
    rw [recL_len, wrap64_in (n := (i : Int) + 1) (by omega) (by omega), wrap64_in (n := x0 + (W.length : Int)) (by omega) (by omega)]
    generalize (rd_T23 l (i : Int)).f1 = kd
    generalize (rd_T23 l (i : Int)).f2 = s
    generalize (rd_T23 l (i : Int)).f3 = v
    unfold sApp
    by_cases hc : chk (x0 + (W.length : Int)) kd s v = 0
    · rw [if_pos hc]
      by_cases hf : ((segB x0 W).length : Int) + ((rec_ (x0 + (W.length : Int)) kd s v).length : Int) > 65536
      · rw [if_pos hf]
        exact Ev.neg (by decide) (ih (i + 1) W (by omega) (by omega) hk hs)
      · rw [if_neg hf]
        dsimp only
        rw [wrap64_in (n := x0 + (W.length : Int) + 1) (by omega) (by omega)]
        refine Ev.pos rfl (Ev.pos rfl (Ev.pos rfl (Ev.pos rfl (Ev.pos (by omega) ?_))))
        have hb1 : segB x0 (W ++ [(kd, s, v)]) = segB x0 W ++ rec_ (x0 + (W.length : Int)) kd s v := by rw [segB_app]; simp [segB]
        have := ih (i + 1) (W ++ [(kd, s, v)]) (by omega) (by simp; omega) ((okL_app _ _ _).2 ⟨hk, hc, trivial⟩) (by rw [hb1, List.length_append]; omega)
        rw [recL_app, hb1] at this
        simp only [recL, List.length_append, List.length_cons, List.length_nil, Nat.zero_add] at this
        rw [show x0 + ((W.length + 1 : Nat) : Int) = x0 + (W.length : Int) + 1 from by omega] at this
        exact this
    · rw [if_neg hc]
      exact Ev.neg hc (ih (i + 1) W (by omega) (by omega) hk hs)
theorem SegmentBack (x0 : Int) (x1 : List S23) : ((Lit.int .i64 x0).wf = true) → (x1.length ≤ maxLen ∧ ∀ q_ ∈ x1, ((Lit.int .i64 q_.f0).wf = true) ∧ ((Lit.int .i64 q_.f1).wf = true) ∧ (q_.f2.size ≤ maxLen) ∧ (q_.f3.size ≤ maxLen)) → ∃ k, brokerlaw32_SegmentBack.f k x0 x1 = some true := by
  rintro _ ⟨hm, _⟩
  apply Ev.rounds
  have out : Ev (fun k => brokerlaw32_SegmentBack.j0 k x0 x1 true) true := Ev.step (fun k => by simp only [brokerlaw32_SegmentBack.j0, if_true]) (Ev.bind awake32 (Ev.now _))
  unfold brokerlaw32_SegmentBack.f
  by_cases h0 : x0 < 0
  · exact Ev.pos h0 out
  refine Ev.neg h0 ?_
  by_cases h1 : x0 > 1099511627760
  · exact Ev.pos h1 out
  refine Ev.neg h1 ?_
  by_cases hl : x1.length ≤ 4611686018427387904
  · obtain ⟨r, hr, hs⟩ := few32_ev x1 hl
    refine Ev.bind hr ?_
    cases r with
    | false => exact out
    | true =>
      refine Ev.step (fun k => by simp only [brokerlaw32_SegmentBack.j0]; rw [if_neg (by simp)]) ?_
      refine Ev.get (x := (x0, x0, [])) rfl ?_
      have := back_l0 x0 (by omega) (by omega) x1 (hs rfl).1 x1.length 0 [] (by omega) (by simp) trivial (by simp [segB])
      simpa [recL, segB] using this
  · refine Ev.bind (a := false) ?_ out
    unfold brokerlaw32_few.f
    exact Ev.pos (by omega) (Ev.now _)
end Go.Proofs.Ytkkelbakadbbhaa.Pure

