/- The law PackFlags, out of what its functions compute. -/
import Derived.Test.YtkklehfcadkikaaSc
import Derived.Test.YtkklehfcadkikaaSf
import Derived.Test.YtkklehfcadkikaaJx3
import Derived.Test.YtkklehfcadkikaaJx8
import Derived.Test.YtkklehfcadkikaaJx9
set_option linter.unusedVariables false
set_option linter.unusedSimpArgs false
namespace Go.Proofs.Ytkklehfcadkikaa.Pure
open Go.RowKit Go.Proofs.YtkklehfcadkikaaW.PrintWords Go.Proofs.YtkklehfcadkikaaW.PrintLast Go.Proofs.YtkklehfcadkikaaW.PrintMore Go.Proofs.Ytkklehfcadkikaa.J Go.Proofs.Ytkklehfcadkikaa.Sp
/-- The bits of a list of Bools, the first one the lowest. -/
def fl : List Bool → Nat
  | [] => 0
  | b :: r => (if b then 1 else 0) + 2 * fl r
theorem fl_snoc (b : Bool) : ∀ l : List Bool, fl (l ++ [b]) = fl l + (if b then 2 ^ l.length else 0)
  | [] => by cases b <;> simp [fl]
  | a :: r => by
    simp only [List.cons_append, fl, fl_snoc b r, List.length_cons, Nat.pow_succ]
    cases b <;> simp <;> omega
theorem fl_lt : ∀ l : List Bool, fl l < 2 ^ l.length
  | [] => by simp [fl]
  | a :: r => by
    have := fl_lt r
    simp only [fl, List.length_cons, Nat.pow_succ]
    cases a <;> simp <;> omega
theorem fl_bit : ∀ (l : List Bool) (i : Nat) (h : i < l.length), fl l / 2 ^ i % 2 = if l[i] then 1 else 0
  | a :: r, 0, _ => by
    simp only [fl, Nat.pow_zero, Nat.div_one, List.getElem_cons_zero]
    cases a <;> simp <;> omega
  | a :: r, i + 1, h => by
    have := fl_bit r i (by simpa using h)
    simp only [fl, List.getElem_cons_succ]
    rw [← this, Nat.pow_succ, Nat.mul_comm (2 ^ i) 2, ← Nat.div_div_eq_div_mul]
    congr 2
    cases a <;> simp <;> omega
theorem take_snocB {l : List Bool} {i : Nat} (h : i < l.length) : l.take (i + 1) = l.take i ++ [rdOf false l (i : Int)] := by
  rw [List.take_succ_eq_append_getElem h]
  simp [rdOf, List.getD_eq_getElem?_getD, List.getElem?_eq_getElem h]
theorem pow2_le {i : Nat} (h : i ≤ 32) : (2 : Nat) ^ i ≤ 4294967296 := Nat.le_trans (Nat.pow_le_pow_right (by decide) h) (by decide)
theorem flags_stop (l : List Bool) {i : Nat} (h : l.length ≤ i ∨ 32 ≤ i) (h2 : i ≤ 32) : fl (l.take i) = fl (l.take 32) := by
  rcases h with h | h
  · rw [List.take_of_length_le h, List.take_of_length_le (by omega)]
  · rw [show i = 32 from by omega]
theorem shl1 {i : Nat} (h : i < 32) : shl .i64 1 (i : Int) = ((2 ^ i : Nat) : Int) := by
  unfold shl
  have := pow2_le (i := i) (by omega)
  rw [Int.toNat_natCast, show min i IntKind.i64.bits = i from by simp [IntKind.bits]; omega, Int.one_mul, show (2 : Int) ^ i = ((2 ^ i : Nat) : Int) from by push_cast; rfl, wraps_i64 _ (Int.natCast_nonneg _) (Int.lt_of_le_of_lt (Int.ofNat_le.2 this) (by decide))]
theorem pack_Flags_ev (l : List Bool) (hl : l.length ≤ 1000) : Ev (fun k => pack_Flags.f k l) ((fl (l.take 32) : Nat) : Int) := by
  unfold pack_Flags.f
  have : ∀ (d i : Nat), i + d = 32 → Ev (fun k => pack_Flags.l0 k l ((fl (l.take i) : Nat) : Int) (i : Int)) ((fl (l.take 32) : Nat) : Int) := by
    intro d
    induction d with
    | zero =>
      intro i hi
      have stop : Ev (fun k => pack_Flags.j1 k l ((fl (l.take i) : Nat) : Int) (i : Int) false) ((fl (l.take 32) : Nat) : Int) := by
        refine Ev.step (f := fun _ => some ((fl (l.take i) : Nat) : Int)) (fun k => ?_) ?_
        · simp only [pack_Flags.j1]; rw [if_neg (by simp)]
        · rw [flags_stop l (.inr (by omega)) (by omega)]; exact Ev.now _
      by_cases h : (i : Int) < (l.length : Int)
      · refine Ev.step (fun k => ?_) stop
        simp only [pack_Flags.l0]; rw [if_pos h, decide_eq_false (by omega)]
      · refine Ev.step (fun k => ?_) stop
        simp only [pack_Flags.l0]; rw [if_neg h]
    | succ d ih =>
      intro i hi
      by_cases h : (i : Int) < (l.length : Int)
      · have h2 := ih (i + 1) (by omega)
        refine Ev.step (f := fun k => pack_Flags.j1 k l ((fl (l.take i) : Nat) : Int) (i : Int) true) (fun k => ?_) ?_
        · simp only [pack_Flags.l0]; rw [if_pos h, decide_eq_true (by omega)]
        · have hp := pow2_le (i := i) (by omega)
          have hf := fl_lt (l.take i)
          rw [List.length_take, Nat.min_eq_left (by omega)] at hf
          rw [take_snocB (by omega), fl_snoc, List.length_take, Nat.min_eq_left (by omega)] at h2
          refine Ev.step (fun k => ?_) h2
          simp only [pack_Flags.j1]
          rw [if_pos trivial, if_pos (by omega), if_pos h, wrap64_in (by omega) (by omega)]
          cases hb : rdOf false l (i : Int) with
          | true =>
            rw [if_pos rfl, shl1 (by omega), bits_or_comm, i64_or_join i _ _ (by omega) (by
              have : ((2 ^ i : Nat) : Int) = (2 : Int) ^ i := by push_cast; rfl
              rw [this, Int.emod_self]) (by omega) (by omega) (by
              have : ((2 ^ i : Nat) : Int) = (2 : Int) ^ i := by push_cast; rfl
              omega) (by omega)]
            simp only [if_true]
            congr 1
            push_cast; omega
          | false => rw [if_neg (by simp)]; simp
      · refine Ev.step (f := fun k => pack_Flags.j1 k l ((fl (l.take i) : Nat) : Int) (i : Int) false) (fun k => ?_) ?_
        · simp only [pack_Flags.l0]; rw [if_neg h]
        · refine Ev.step (f := fun _ => some ((fl (l.take i) : Nat) : Int)) (fun k => ?_) ?_
          · simp only [pack_Flags.j1]; rw [if_neg (by simp)]
          · rw [flags_stop l (.inl (by omega)) (by omega)]; exact Ev.now _
  exact this 32 0 rfl
theorem ref_Flags_ev (l : List Bool) (hl : l.length ≤ 1000) : Ev (fun k => brokerref03_Flags.f k l) ((fl (l.take 32) : Nat) : Int) := by
  unfold brokerref03_Flags.f
  have : ∀ (d i : Nat), i + d = 32 → Ev (fun k => brokerref03_Flags.l0 k l ((fl (l.take i) : Nat) : Int) ((2 ^ i : Nat) : Int) (i : Int)) ((fl (l.take 32) : Nat) : Int) := by
    intro d
    induction d with
    | zero =>
      intro i hi
      have stop : Ev (fun k => brokerref03_Flags.j1 k l ((fl (l.take i) : Nat) : Int) ((2 ^ i : Nat) : Int) (i : Int) false) ((fl (l.take 32) : Nat) : Int) := by
        refine Ev.step (f := fun _ => some ((fl (l.take i) : Nat) : Int)) (fun k => ?_) ?_
        · simp only [brokerref03_Flags.j1]; rw [if_neg (by simp)]
        · rw [flags_stop l (.inr (by omega)) (by omega)]; exact Ev.now _
      by_cases h : (i : Int) < (l.length : Int)
      · refine Ev.step (fun k => ?_) stop
        simp only [brokerref03_Flags.l0]; rw [if_pos h, decide_eq_false (by omega)]
      · refine Ev.step (fun k => ?_) stop
        simp only [brokerref03_Flags.l0]; rw [if_neg h]
    | succ d ih =>
      intro i hi
      by_cases h : (i : Int) < (l.length : Int)
      · have h2 := ih (i + 1) (by omega)
        refine Ev.step (f := fun k => brokerref03_Flags.j1 k l ((fl (l.take i) : Nat) : Int) ((2 ^ i : Nat) : Int) (i : Int) true) (fun k => ?_) ?_
        · simp only [brokerref03_Flags.l0]; rw [if_pos h, decide_eq_true (by omega)]
        · have hp := pow2_le (i := i) (by omega)
          have hf := fl_lt (l.take i)
          rw [List.length_take, Nat.min_eq_left (by omega)] at hf
          rw [take_snocB (by omega), fl_snoc, List.length_take, Nat.min_eq_left (by omega)] at h2
          refine Ev.step (fun k => ?_) h2
          simp only [brokerref03_Flags.j1]
          rw [if_pos trivial, if_pos (by omega), if_pos h, wrap64_in (n := (i : Int) + 1) (by omega) (by omega), wrap64_in (n := ((2 ^ i : Nat) : Int) * 2) (by omega) (by omega)]
          have e2 : ((2 ^ i : Nat) : Int) * 2 = ((2 ^ (i + 1) : Nat) : Int) := by rw [Nat.pow_succ]; push_cast; rfl
          rw [e2]
          cases hb : rdOf false l (i : Int) with
          | true =>
            rw [if_pos rfl, wrap64_in (by omega) (by omega)]
            simp only [if_true]
            congr 1
          | false => rw [if_neg (by simp)]; simp
      · refine Ev.step (f := fun k => brokerref03_Flags.j1 k l ((fl (l.take i) : Nat) : Int) ((2 ^ i : Nat) : Int) (i : Int) false) (fun k => ?_) ?_
        · simp only [brokerref03_Flags.l0]; rw [if_neg h]
        · refine Ev.step (f := fun _ => some ((fl (l.take i) : Nat) : Int)) (fun k => ?_) ?_
          · simp only [brokerref03_Flags.j1]; rw [if_neg (by simp)]
          · rw [flags_stop l (.inl (by omega)) (by omega)]; exact Ev.now _
  exact this 32 0 rfl
theorem i64_and1 (x : Int) (h₀ : 0 ≤ x) (h₁ : x < 2 ^ 63) : Go.bits .and .i64 x 1 = x % 2 := bits_mask .i64 63 (by decide) wraps_i64 1 (by decide) x h₀ h₁
def flag (n i : Int) : Bool := if 0 ≤ i ∧ i < 32 then (Go.bits .and .i64 (shr .i64 n i) 1) == 1 else false
theorem pack_Flag_eq (n i : Int) : pack_Flag.f n i = some (flag n i) := by
  unfold pack_Flag.f flag
  by_cases h0 : i ≥ 0
  · by_cases h1 : i < 32
    · rw [if_pos h0, if_pos h1, if_pos h0, if_pos ⟨h0, h1⟩]
    · rw [if_pos h0, if_neg h1, if_neg (by omega)]
  · rw [if_neg h0, if_neg (by omega)]
theorem ref_Flag_eq (n i : Int) : brokerref03_Flag.f n i = some (flag n i) := by
  unfold brokerref03_Flag.f flag
  by_cases h0 : i ≥ 0
  · by_cases h1 : i < 32
    · rw [if_pos h0, if_pos h1, u64w (by omega) (by omega), if_pos h0, if_pos ⟨h0, h1⟩]
    · rw [if_pos h0, if_neg h1, if_neg (by omega)]
  · rw [if_neg h0, if_neg (by omega)]
theorem flag_bit (l : List Bool) {i : Nat} (hi : i < 32) (hl : i < l.length) : flag ((fl (l.take 32) : Nat) : Int) (i : Int) = rdOf false l (i : Int) := by
  unfold flag
  rw [if_pos (by omega)]
  have hlt := fl_lt (l.take 32)
  have hlen : (l.take 32).length ≤ 32 := by rw [List.length_take]; omega
  have hle := pow2_le hlen
  have hb := fl_bit (l.take 32) i (by rw [List.length_take]; omega)
  have hs : shr .i64 ((fl (l.take 32) : Nat) : Int) (i : Int) = ((fl (l.take 32) / 2 ^ i : Nat) : Int) := by
    unfold shr
    rw [Int.toNat_natCast, show min i IntKind.i64.bits = i from by simp [IntKind.bits]; omega]
    push_cast; rfl
  have hd : fl (l.take 32) / 2 ^ i ≤ fl (l.take 32) := Nat.div_le_self _ _
  have hd2 : fl (l.take 32) / 2 ^ i < 4294967296 := Nat.lt_of_lt_of_le (Nat.lt_of_le_of_lt hd hlt) hle
  rw [hs]
  clear hs hd hlt hle
  have hg : (l.take 32)[i]'(by rw [List.length_take]; omega) = rdOf false l (i : Int) := by
    rw [List.getElem_take]
    simp [rdOf, List.getD_eq_getElem?_getD, List.getElem?_eq_getElem hl]
  rw [hg] at hb
  generalize fl (l.take 32) / 2 ^ i = y at *
  rw [i64_and1 _ (by omega) (by omega)]
  cases hq : rdOf false l (i : Int) <;> rw [hq] at hb <;> simp at hb ⊢ <;> omega
theorem PackFlags (x0 : List Bool) (x1 : Int) (x2 : Int) : (x0.length ≤ maxLen ∧ ∀ q_ ∈ x0, True) → ((Lit.int .i64 x1).wf = true) → ((Lit.int .i64 x2).wf = true) → ∃ k, brokerlaw03_PackFlags.f k x0 x1 x2 = some true := by
  rintro _ _ _
  apply Ev.rounds
  unfold brokerlaw03_PackFlags.f
  by_cases h : (x0.length : Int) > 100
  · exact Ev.pos h (Ev.bind awake03 (Ev.now _))
  · refine Ev.neg h (Ev.bind (pack_Flags_ev x0 (by omega)) (Ev.bind (ref_Flags_ev x0 (by omega)) (Ev.pos rfl (Ev.get (pack_Flag_eq _ _) (Ev.get (ref_Flag_eq _ _) ?_)))))
    rw [show (flag x1 x2 != flag x1 x2) = false from by simp]
    refine Ev.step (fun k => by simp only [brokerlaw03_PackFlags.j0]; rw [if_neg (by simp)]) ?_
    by_cases h0 : x2 < 0
    · exact Ev.pos h0 (Ev.bind awake03 (Ev.now _))
    · refine Ev.neg h0 ?_
      by_cases h1 : x2 ≥ (x0.length : Int)
      · exact Ev.pos h1 (Ev.bind awake03 (Ev.now _))
      · refine Ev.neg h1 ?_
        by_cases h2 : x2 ≥ 32
        · exact Ev.pos h2 (Ev.bind awake03 (Ev.now _))
        · refine Ev.neg h2 (Ev.bind (pack_Flags_ev x0 (by omega)) (Ev.get (pack_Flag_eq _ _) (Ev.pos (by omega) (Ev.pos (by omega) (Ev.pos ?_ (Ev.bind awake03 (Ev.now _)))))))
          obtain ⟨i, rfl⟩ := Int.eq_ofNat_of_zero_le (by omega : 0 ≤ x2)
          rw [flag_bit x0 (by omega) (by omega)]
          simp
end Go.Proofs.Ytkklehfcadkikaa.Pure
