/- The encoding of numbers as bytes, and its decoding: plain facts, no program in sight. -/
import Derived.Test.YtkklehfcadkikaaSa
set_option linter.unusedVariables false
set_option linter.unusedSimpArgs false
namespace Go.Proofs.Ytkklehfcadkikaa.Sp
open Go.RowKit Go.Proofs.YtkklehfcadkikaaW.PrintWords Go.Proofs.YtkklehfcadkikaaW.PrintMore

def Byt (l : List Int) : Prop := ∀ x ∈ l, 0 ≤ x ∧ x ≤ 255
theorem Byt.nil : Byt [] := fun x h => by simp at h
theorem Byt.append {a b : List Int} (ha : Byt a) (hb : Byt b) : Byt (a ++ b) := fun x h => by
  rcases List.mem_append.1 h with h | h
  · exact ha x h
  · exact hb x h
theorem Byt.cons {x : Int} {a : List Int} (h0 : 0 ≤ x) (h1 : x ≤ 255) (ha : Byt a) : Byt (x :: a) := fun y h => by
  rcases List.mem_cons.1 h with rfl | h
  · exact ⟨h0, h1⟩
  · exact ha y h
theorem Byt.take {a : List Int} (h : Byt a) (n : Nat) : Byt (a.take n) := fun x hx => h x (List.mem_of_mem_take hx)
theorem Byt.drop {a : List Int} (h : Byt a) (n : Nat) : Byt (a.drop n) := fun x hx => h x (List.mem_of_mem_drop hx)
theorem Byt.left {a b : List Int} (h : Byt (a ++ b)) : Byt a := fun x hx => h x (List.mem_append_left _ hx)
theorem Byt.right {a b : List Int} (h : Byt (a ++ b)) : Byt b := fun x hx => h x (List.mem_append_right _ hx)
theorem byt_of_wf {l : List Int} (h : ∀ x ∈ l, (Lit.int .u8 x).wf = true) : Byt l := fun x hx => by
  have := h x hx
  simp [Lit.wf, IntKind.min, IntKind.max, IntKind.bits, IntKind.signed] at this
  omega

theorem wf64 {n : Int} (h : (Lit.int .i64 n).wf = true) : -9223372036854775808 ≤ n ∧ n ≤ 9223372036854775807 := by
  simp [Lit.wf, IntKind.min, IntKind.max, IntKind.bits, IntKind.signed] at h
  omega
theorem wf8 {n : Int} (h : (Lit.int .u8 n).wf = true) : 0 ≤ n ∧ n ≤ 255 := by
  simp [Lit.wf, IntKind.min, IntKind.max, IntKind.bits, IntKind.signed] at h
  omega

def enc (c : Nat) : List Int := if c < 128 then [(c : Int)] else ((c % 128 + 128 : Nat) : Int) :: enc (c / 128)
termination_by c
decreasing_by omega
theorem enc_small {c : Nat} (h : c < 128) : enc c = [(c : Int)] := by rw [enc, if_pos h]
theorem enc_big {c : Nat} (h : ¬ c < 128) : enc c = ((c % 128 + 128 : Nat) : Int) :: enc (c / 128) := by rw [enc, if_neg h]
theorem enc_pos (c : Nat) : 1 ≤ (enc c).length := by
  rw [enc]; split <;> simp
theorem enc_byt (c : Nat) : Byt (enc c) := by
  induction c using Nat.strongRecOn with
  | _ c ih =>
    by_cases h : c < 128
    · rw [enc_small h]; exact Byt.cons (by omega) (by omega) Byt.nil
    · rw [enc_big h]; exact Byt.cons (by omega) (by omega) (ih _ (by omega))
theorem enc_len (c : Nat) : ∀ j, c < 128 ^ (j + 1) → (enc c).length ≤ j + 1 := by
  induction c using Nat.strongRecOn with
  | _ c ih =>
    intro j hj
    by_cases h : c < 128
    · rw [enc_small h]; simp
    · rw [enc_big h]
      cases j with
      | zero => simp at hj; omega
      | succ j =>
        have := ih (c / 128) (by omega) j (by rw [Nat.pow_succ] at hj; omega)
        simp; omega
theorem enc_len10 {c : Nat} (h : c < 2 ^ 64) : (enc c).length ≤ 10 := enc_len c 9 (Nat.lt_of_lt_of_le h (by decide))

def code (n : Int) : Nat := if 0 ≤ n then (2 * n).toNat else (-(2 * n) - 1).toNat
def num (c : Nat) : Int := if c % 2 = 0 then ((c / 2 : Nat) : Int) else -((c / 2 : Nat) : Int) - 1
theorem num_code (n : Int) : num (code n) = n := by unfold num code; split <;> split <;> omega
theorem code_num (c : Nat) : code (num c) = c := by unfold num code; split <;> split <;> omega
theorem code_lt {n : Int} (h0 : -9223372036854775808 ≤ n) (h1 : n ≤ 9223372036854775807) : code n < 2 ^ 64 := by unfold code; split <;> omega
theorem num_range {c : Nat} (h : c < 2 ^ 64) : -9223372036854775808 ≤ num c ∧ num c ≤ 9223372036854775807 := by unfold num; split <;> omega

inductive Dec where
  | ok (c k : Nat)
  | trunc
  | syn
def dec : List Int → Nat → Nat → Dec
  | [], _, _ => .trunc
  | x :: r, i, c => if (i = 9 ∧ 1 < x) ∨ (0 < i ∧ x = 0) then .syn else if x < 128 then .ok (c + x.toNat * 128 ^ i) (i + 1) else dec r (i + 1) (c + (x.toNat - 128) * 128 ^ i)
theorem pow128_9 : (128 : Nat) ^ 9 = 9223372036854775808 := by decide
theorem dec_syn {x : Int} {r : List Int} {i c : Nat} (h : (i = 9 ∧ 1 < x) ∨ (0 < i ∧ x = 0)) : dec (x :: r) i c = .syn := by rw [dec, if_pos h]
theorem dec_ok {x : Int} {r : List Int} {i c : Nat} (h : ¬ ((i = 9 ∧ 1 < x) ∨ (0 < i ∧ x = 0))) (hx : x < 128) : dec (x :: r) i c = .ok (c + x.toNat * 128 ^ i) (i + 1) := by rw [dec, if_neg h, if_pos hx]
theorem dec_more {x : Int} {r : List Int} {i c : Nat} (h : ¬ ((i = 9 ∧ 1 < x) ∨ (0 < i ∧ x = 0))) (hx : ¬ x < 128) : dec (x :: r) i c = dec r (i + 1) (c + (x.toNat - 128) * 128 ^ i) := by rw [dec, if_neg h, if_neg hx]

theorem pow128_dvd (i : Nat) : ∀ c : Nat, c * 128 ^ i < 2 ^ 64 → i = 9 → c ≤ 1 := by
  intro c h hi; subst hi; rw [pow128_9] at h; omega
theorem pow128_10 {i c : Nat} (h : c * 128 ^ i < 2 ^ 64) (hc : 0 < c) : i ≤ 9 := by
  apply Decidable.byContradiction
  intro hn
  have h1 : 128 ^ 10 ≤ 128 ^ i := Nat.pow_le_pow_right (by decide) (by omega)
  have h2 : 128 ^ i ≤ c * 128 ^ i := Nat.le_mul_of_pos_left _ hc
  have h3 : (2 : Nat) ^ 64 ≤ 128 ^ 10 := by decide
  omega
/-- What was encoded is decoded, whatever follows. -/
theorem dec_enc (r : List Int) (c : Nat) : ∀ i a, c * 128 ^ i < 2 ^ 64 → (i = 0 ∨ 0 < c) → dec (enc c ++ r) i a = .ok (a + c * 128 ^ i) (i + (enc c).length) := by
  induction c using Nat.strongRecOn with
  | _ c ih =>
    intro i a h hi
    have h9 := pow128_dvd i c h
    by_cases hc : c < 128
    · rw [enc_small hc]
      have hn : ¬ ((i = 9 ∧ 1 < ((c : Nat) : Int)) ∨ (0 < i ∧ ((c : Nat) : Int) = 0)) := by omega
      rw [List.singleton_append, dec_ok hn (by omega)]
      simp
    · rw [enc_big hc]
      have hn : ¬ ((i = 9 ∧ 1 < ((c % 128 + 128 : Nat) : Int)) ∨ (0 < i ∧ ((c % 128 + 128 : Nat) : Int) = 0)) := by omega
      rw [List.cons_append, dec_more hn (by omega)]
      have hp : c / 128 * 128 ^ (i + 1) = c * 128 ^ i - c % 128 * 128 ^ i := by
        have h1 : c / 128 * 128 = c - c % 128 := by omega
        rw [Nat.pow_succ, Nat.mul_comm (128 ^ i), ← Nat.mul_assoc, h1, Nat.sub_mul]
      have hle : c % 128 * 128 ^ i ≤ c * 128 ^ i := Nat.mul_le_mul_right _ (Nat.mod_le _ _)
      rw [ih (c / 128) (by omega) (i + 1) _ (by omega) (.inr (by omega)), hp]
      have e1 : (((c % 128 + 128 : Nat) : Int).toNat - 128) = c % 128 := by omega
      rw [e1]
      have e2 : a + c % 128 * 128 ^ i + (c * 128 ^ i - c % 128 * 128 ^ i) = a + c * 128 ^ i := by
        generalize c % 128 * 128 ^ i = u at *
        generalize c * 128 ^ i = v at *
        omega
      have e3 : i + 1 + (enc (c / 128)).length = i + (((c % 128 + 128 : Nat) : Int) :: enc (c / 128)).length := by rw [List.length_cons]; omega
      rw [e2, e3]
/-- What is accepted is what is written. -/
theorem dec_only (l : List Int) : ∀ i a c k, Byt l → i ≤ 9 → dec l i a = .ok c k →
    ∃ c', c = a + c' * 128 ^ i ∧ k = i + (enc c').length ∧ (enc c').length ≤ l.length ∧ l.take (enc c').length = enc c' ∧ (i = 0 ∨ 0 < c') ∧ c' * 128 ^ i < 2 ^ 64 := by
  induction l with
  | nil => intro i a c k _ _ h; simp [dec] at h
  | cons x r ih =>
    intro i a c k hb hi h
    have hx := hb x (by simp)
    by_cases hs : (i = 9 ∧ 1 < x) ∨ (0 < i ∧ x = 0)
    · rw [dec_syn hs] at h; cases h
    · by_cases hlt : x < 128
      · rw [dec_ok hs hlt] at h
        injection h with h1 h2
        have he : enc x.toNat = [x] := by rw [enc_small (by omega)]; congr 1; omega
        refine ⟨x.toNat, h1.symm, by rw [he]; simp; omega, by rw [he]; simp, by rw [he]; simp, by omega, ?_⟩
        have hle : 128 ^ i ≤ 128 ^ 9 := Nat.pow_le_pow_right (by decide) hi
        by_cases h9 : i = 9
        · subst h9; rw [pow128_9]; omega
        · have hle8 : 128 ^ i ≤ 128 ^ 8 := Nat.pow_le_pow_right (by decide) (by omega)
          have h3 : x.toNat * 128 ^ i ≤ 127 * 128 ^ 8 := Nat.mul_le_mul (by omega) hle8
          have h4 : (127 : Nat) * 128 ^ 8 < 2 ^ 64 := by decide
          omega
      · rw [dec_more hs hlt] at h
        have hi9 : i ≠ 9 := by omega
        obtain ⟨c', h1, h2, h3, h4, h5, h6⟩ := ih (i + 1) _ c k (fun y hy => hb y (List.mem_cons_of_mem _ hy)) (by omega) h
        have hc' : 0 < c' := by omega
        have hbig : ¬ (c' * 128 + (x.toNat - 128)) < 128 := by omega
        have he : enc (c' * 128 + (x.toNat - 128)) = x :: enc c' := by
          rw [enc_big hbig]
          congr 1
          · omega
          · congr 1; omega
        have hp : c' * 128 ^ (i + 1) = c' * 128 * 128 ^ i := by rw [Nat.pow_succ, Nat.mul_comm (128 ^ i), ← Nat.mul_assoc]
        refine ⟨c' * 128 + (x.toNat - 128), ?_, by rw [he]; simp; omega, by rw [he]; simp; omega, ?_, .inr (by omega), ?_⟩
        · rw [h1, hp, Nat.add_mul]; omega
        · rw [he]; simp [h4]
        · -- c' * 128^(i+1) < 2^64, and below the next multiple
          rw [Nat.add_mul, ← hp]
          have hd : (2 : Nat) ^ 64 = 2 ^ (64 - 7 * (i + 1)) * 128 ^ (i + 1) := by
            have : (128 : Nat) = 2 ^ 7 := by decide
            rw [this, ← Nat.pow_mul, ← Nat.pow_add]
            congr 1; omega
          have hlt2 : c' < 2 ^ (64 - 7 * (i + 1)) := by
            rw [hd] at h6
            exact Nat.lt_of_mul_lt_mul_right h6
          have h7 : (c' + 1) * 128 ^ (i + 1) ≤ 2 ^ 64 := by rw [hd]; exact Nat.mul_le_mul_right _ hlt2
          have h8 : (x.toNat - 128) * 128 ^ i < 128 ^ (i + 1) := by
            rw [Nat.pow_succ, Nat.mul_comm (128 ^ i)]
            exact Nat.mul_lt_mul_of_pos_right (by omega) (Nat.pow_pos (by decide))
          rw [Nat.add_mul] at h7
          omega
/-- What ends too early is torn. -/
theorem dec_torn (c : Nat) : ∀ i a m, c * 128 ^ i < 2 ^ 64 → (i = 0 ∨ 0 < c) → m < (enc c).length → dec ((enc c).take m) i a = .trunc := by
  induction c using Nat.strongRecOn with
  | _ c ih =>
    intro i a m h hi hm
    have h9 := pow128_dvd i c h
    cases m with
    | zero => simp [dec]
    | succ m =>
      by_cases hc : c < 128
      · rw [enc_small hc] at hm; simp at hm
      · rw [enc_big hc] at hm ⊢
        have hn : ¬ ((i = 9 ∧ 1 < ((c % 128 + 128 : Nat) : Int)) ∨ (0 < i ∧ ((c % 128 + 128 : Nat) : Int) = 0)) := by omega
        rw [List.take_succ_cons, dec_more hn (by omega)]
        have hp : c / 128 * 128 ^ (i + 1) ≤ c * 128 ^ i := by
          rw [Nat.pow_succ, Nat.mul_comm (128 ^ i), ← Nat.mul_assoc]
          exact Nat.mul_le_mul_right _ (Nat.div_mul_le_self _ _)
        exact ih (c / 128) (by omega) (i + 1) _ m (by omega) (.inr (by omega)) (by simp at hm; omega)
/-- More bytes behind do not change an answer. -/
theorem dec_append (l r : List Int) : ∀ i a, dec l i a ≠ .trunc → dec (l ++ r) i a = dec l i a := by
  induction l with
  | nil => intro i a h; simp [dec] at h
  | cons x l ih =>
    intro i a h
    rw [List.cons_append]
    by_cases hs : (i = 9 ∧ 1 < x) ∨ (0 < i ∧ x = 0)
    · rw [dec_syn hs, dec_syn hs]
    · by_cases hlt : x < 128
      · rw [dec_ok hs hlt, dec_ok hs hlt]
      · rw [dec_more hs hlt] at h
        rw [dec_more hs hlt, dec_more hs hlt]
        exact ih _ _ h
end Go.Proofs.Ytkklehfcadkikaa.Sp
