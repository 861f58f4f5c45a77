/- What the printed functions of package index, and of its reference, compute: finding. -/
import Derived.Test.YtkkelbakadbbhaaPI
import Derived.Test.YtkkelbakadbbhaaUI
set_option linter.unusedVariables false
set_option linter.unusedSimpArgs false
namespace Go.Proofs.Ytkkelbakadbbhaa.EVT
open Go Go.EV

theorem awake33 : g33 = some true := by kernel_rfl
def fndM (l : List (Int × Int)) (f : Int) : Nat → (Int × Int) × Bool
  | 0 => ((0, 0), false)
  | i + 1 => if (l.getD i (0, 0)).1 ≤ f then (l.getD i (0, 0), true) else fndM l f i
theorem find_loop (l : List (Int × Int)) (f : Int) (z : Int × Int) (hl : l.length ≤ 9223372036854775807) : ∀ (i k : Nat), i ≤ l.length → i < k →
    ∃ o, loopN st40_0 k ((l, f, (i : Int) - 1), z) = some o ∧ (match o with | .inl x => some ((0, 0), false) | .inr x => some x) = some (fndM l f i) := by
  intro i
  induction i with
  | zero =>
    intro k hi hk
    cases k with
    | zero => omega
    | succ k =>
      rw [loopN_s]; generalize loopN st40_0 k = L at *; dsimp only [st40_0]
      rw [cf (by (rw [Bool.eq_false_iff]; simp only [ne_eq, Bool.and_eq_true, Bool.or_eq_true, decide_eq_true_eq, beq_iff_eq, bne_iff_ne, Bool.not_eq_true', decide_eq_false_iff_not, and_true, true_and]; omega))]; exact ⟨_, rfl, rfl⟩
  | succ i ih =>
    intro k hi hk
    cases k with
    | zero => omega
    | succ k =>
      have ih' := ih k (by omega) (by omega)
      rw [loopN_s]; generalize loopN st40_0 k = L at ih' ⊢; dsimp only [st40_0]
      rw [show ((i + 1 : Nat) : Int) - 1 = (i : Int) from by omega, ct (by (simp only [ne_eq, Bool.and_eq_true, Bool.or_eq_true, decide_eq_true_eq, beq_iff_eq, bne_iff_ne, Bool.not_eq_true', decide_eq_false_iff_not, and_true, true_and]; omega)), ct (by (simp only [ne_eq, Bool.and_eq_true, Bool.or_eq_true, decide_eq_true_eq, beq_iff_eq, bne_iff_ne, Bool.not_eq_true', decide_eq_false_iff_not, and_true, true_and]; omega)), Int.toNat_natCast]
      unfold fndM
      by_cases h : (l.getD i (0, 0)).1 ≤ f
      · rw [ct (by (simp only [ne_eq, Bool.and_eq_true, Bool.or_eq_true, decide_eq_true_eq, beq_iff_eq, bne_iff_ne, Bool.not_eq_true', decide_eq_false_iff_not, and_true, true_and]; omega)), ct (by (simp only [ne_eq, Bool.and_eq_true, Bool.or_eq_true, decide_eq_true_eq, beq_iff_eq, bne_iff_ne, Bool.not_eq_true', decide_eq_false_iff_not, and_true, true_and]; omega)), if_pos h]; exact ⟨_, rfl, rfl⟩
      · rw [cf (by (rw [Bool.eq_false_iff]; simp only [ne_eq, Bool.and_eq_true, Bool.or_eq_true, decide_eq_true_eq, beq_iff_eq, bne_iff_ne, Bool.not_eq_true', decide_eq_false_iff_not, and_true, true_and]; omega)), if_neg h, i64w (by omega) (by omega)]; exact ih'
theorem Find_eq (l : List (Int × Int)) (f : Int) (hl : l.length ≤ 9223372036854775807) : g40 l f = some (fndM l f l.length) := by
  obtain ⟨o, k1, k2⟩ := find_loop l f (0, 0) hl l.length fuel (by omega) (by rw [fuel_eq]; omega)
  unfold g40 h40_0
  rw [i64w (by omega) (by omega), k1]
  simp only [Option.bind_some]
  exact k2
theorem ref_Find_eq (l : List (Int × Int)) (f : Int) (hl : l.length ≤ 9223372036854775807) : g41 l f = some (fndM l f l.length) := Find_eq l f hl
/-! ### rising marks -/
def risB (l : List (Int × Int)) : Nat → Nat → Bool
  | 0, _ => true
  | d + 1, i => if i < l.length then (if (l.getD i (0, 0)).1 ≤ (l.getD (i - 1) (0, 0)).1 then false else risB l d (i + 1)) else true
theorem rising_loop (l : List (Int × Int)) (hl : l.length ≤ 9223372036854775806) : ∀ (d i k : Nat), 1 ≤ i → l.length + 1 ≤ i + d → i ≤ l.length + 1 → d < k →
    ∃ o, loopN st39_0 k ((l, (i : Int)), ()) = some o ∧ (match o with | .inl x => some true | .inr x => some x) = some (risB l d i) := by
  intro d
  induction d with
  | zero =>
    intro i k h1 hi h2 hk
    cases k with
    | zero => omega
    | succ k =>
      rw [loopN_s]; generalize loopN st39_0 k = L at *; dsimp only [st39_0]
      rw [cf (by (rw [Bool.eq_false_iff]; simp only [ne_eq, Bool.and_eq_true, Bool.or_eq_true, decide_eq_true_eq, beq_iff_eq, bne_iff_ne, Bool.not_eq_true', decide_eq_false_iff_not, and_true, true_and]; omega))]; exact ⟨_, rfl, rfl⟩
  | succ d ih =>
    intro i k h1 hi h2 hk
    cases k with
    | zero => omega
    | succ k =>
      have ih' := fun a b c => ih (i + 1) k a b c (by omega)
      rw [loopN_s]; generalize loopN st39_0 k = L at ih' ⊢; dsimp only [st39_0]
      unfold risB
      by_cases hp : i < l.length
      · rw [ct (by (simp only [ne_eq, Bool.and_eq_true, Bool.or_eq_true, decide_eq_true_eq, beq_iff_eq, bne_iff_ne, Bool.not_eq_true', decide_eq_false_iff_not, and_true, true_and]; omega)), ct (by (simp only [ne_eq, Bool.and_eq_true, Bool.or_eq_true, decide_eq_true_eq, beq_iff_eq, bne_iff_ne, Bool.not_eq_true', decide_eq_false_iff_not, and_true, true_and]; omega)), i64w (n := (i : Int) - 1) (by omega) (by omega), i64w (by omega) (by omega), ct (by (simp only [ne_eq, Bool.and_eq_true, Bool.or_eq_true, decide_eq_true_eq, beq_iff_eq, bne_iff_ne, Bool.not_eq_true', decide_eq_false_iff_not, and_true, true_and]; omega)), if_pos hp, show ((i : Int) - 1).toNat = i - 1 from by omega, Int.toNat_natCast]
        by_cases hc : (l.getD i (0, 0)).1 ≤ (l.getD (i - 1) (0, 0)).1
        · rw [ct (by (simp only [ne_eq, Bool.and_eq_true, Bool.or_eq_true, decide_eq_true_eq, beq_iff_eq, bne_iff_ne, Bool.not_eq_true', decide_eq_false_iff_not, and_true, true_and]; omega)), if_pos hc]; exact ⟨_, rfl, rfl⟩
        · rw [cf (by (rw [Bool.eq_false_iff]; simp only [ne_eq, Bool.and_eq_true, Bool.or_eq_true, decide_eq_true_eq, beq_iff_eq, bne_iff_ne, Bool.not_eq_true', decide_eq_false_iff_not, and_true, true_and]; omega)), if_neg hc]; exact ih' (by omega) (by omega) (by omega)
      · rw [cf (by (rw [Bool.eq_false_iff]; simp only [ne_eq, Bool.and_eq_true, Bool.or_eq_true, decide_eq_true_eq, beq_iff_eq, bne_iff_ne, Bool.not_eq_true', decide_eq_false_iff_not, and_true, true_and]; omega)), if_neg hp]; exact ⟨_, rfl, rfl⟩
theorem Rising_eq (l : List (Int × Int)) (hl : l.length ≤ 9223372036854775806) : g39 l = some (risB l l.length 1) := by
  obtain ⟨o, k1, k2⟩ := rising_loop l hl l.length 1 fuel (by omega) (by omega) (by omega) (by rw [fuel_eq]; omega)
  unfold g39 h39_0
  have k1' : loopN st39_0 fuel ((l, 1), ()) = some o := k1
  rw [k1']
  simp only [Option.bind_some]
  exact k2
end Go.Proofs.Ytkkelbakadbbhaa.EVT
