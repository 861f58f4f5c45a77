/- What the printed functions of packages frame and record, and of their references, compute. -/
import Derived.Test.YtkklehfcadkikaaPE
set_option linter.unusedVariables false
set_option linter.unusedSimpArgs false
namespace Go.Proofs.Ytkklehfcadkikaa.EVT
open Go Go.EV

/-! ### sums -/
theorem wrap_u32 (n : Int) : IntKind.u32.wrap n = n % 4294967296 := by simp [IntKind.wrap, IntKind.bits, IntKind.signed]
theorem sum_loop (b : List UInt8) (hlen : b.length ≤ 4611686018427387904) : ∀ (d i s n : Nat), i + d = b.length → s < 4294967296 → d < n →
    loopN st35_0 n (((s : Int), b, (b.length : Int), (i : Int)), ()) = some (.inl (((fnv s (b.drop i) : Nat) : Int), ())) := by
  intro d
  induction d with
  | zero =>
    intro i s n hi hs hn
    cases n with
    | zero => omega
    | succ n =>
      rw [loopN_s]; generalize loopN st35_0 n = L at *; dsimp only [st35_0]
      rw [cf (by (rw [Bool.eq_false_iff]; simp only [ne_eq, Bool.and_eq_true, Bool.or_eq_true, decide_eq_true_eq, beq_iff_eq, bne_iff_ne, Bool.not_eq_true', decide_eq_false_iff_not, and_true, true_and]; omega)), List.drop_of_length_le (by omega)]; rfl
  | succ d ih =>
    intro i s n hi hs hn
    cases n with
    | zero => omega
    | succ n =>
      have h2 := ih (i + 1) (stp s (b.getD i 0).toNat) n (by omega) (stp_lt _ _) (by omega)
      rw [loopN_s]; generalize loopN st35_0 n = L at h2 ⊢; dsimp only [st35_0]
      have hx := u8lt (b.getD i 0)
      rw [ct (by (simp only [ne_eq, Bool.and_eq_true, Bool.or_eq_true, decide_eq_true_eq, beq_iff_eq, bne_iff_ne, Bool.not_eq_true', decide_eq_false_iff_not, and_true, true_and]; omega)), ct (by (simp only [ne_eq, Bool.and_eq_true, Bool.or_eq_true, decide_eq_true_eq, beq_iff_eq, bne_iff_ne, Bool.not_eq_true', decide_eq_false_iff_not, and_true, true_and]; omega)), drop_at8 (by omega), Int.toNat_natCast]
      generalize b.getD i 0 = x at *
      rw [xor_fold, wrap_u32, wrap_u32, frame_step hs hx, i64w (by omega) (by omega)]
      exact h2
theorem Sum_eq (b : List UInt8) (hlen : b.length ≤ 4611686018427387904) : g35 b = some ((sum b : Nat) : Int) := by
  unfold g35 h35_0
  have h := sum_loop b hlen b.length 0 2166136261 fuel (by omega) (by decide) (by rw [fuel_eq]; omega)
  have hs := sum_lt b
  rw [show ((2166136261 : Nat) : Int) = 2166136261 from rfl, show ((0 : Nat) : Int) = 0 from rfl] at h
  rw [h]
  show some (IntKind.i64.wrap ((sum b : Nat) : Int)) = _
  rw [i64w (by omega) (by omega)]
/-! ### frames written -/
theorem p24 : (2 : Int) ^ min (Int.toNat 24) IntKind.i64.bits = 16777216 := by decide
theorem p16 : (2 : Int) ^ min (Int.toNat 16) IntKind.i64.bits = 65536 := by decide
theorem p8 : (2 : Int) ^ min (Int.toNat 8) IntKind.i64.bits = 256 := by decide
theorem be4_int (s : Nat) : [UInt8.ofNat ((s : Int) / 16777216 % 256).toNat, UInt8.ofNat ((s : Int) / 65536 % 256).toNat, UInt8.ofNat ((s : Int) / 256 % 256).toNat, UInt8.ofNat ((s : Int) % 256).toNat] = be4 s := by
  unfold be4
  rw [show ((s : Int) / 16777216 % 256).toNat = s / 16777216 % 256 from by omega, show ((s : Int) / 65536 % 256).toNat = s / 65536 % 256 from by omega, show ((s : Int) / 256 % 256).toNat = s / 256 % 256 from by omega, show ((s : Int) % 256).toNat = s % 256 from by omega]
theorem Wrap_eq (b : List UInt8) (hlen : b.length ≤ 65536) : g37 b = some (wrapF b) := by
  unfold g37
  rw [Sum_eq b (by omega), cf (by (rw [Bool.eq_false_iff]; simp only [ne_eq, Bool.and_eq_true, Bool.or_eq_true, decide_eq_true_eq, beq_iff_eq, bne_iff_ne, Bool.not_eq_true', decide_eq_false_iff_not, and_true, true_and]; omega))]
  simp only [Option.bind_some]
  rw [PutNum_eq [] _ (by omega) (by omega) (by simp)]
  simp only [Option.bind_some, List.nil_append]
  have hs := sum_lt b
  have h10 := enc_len10 (code_lt (n := (b.length : Int)) (by omega) (by omega))
  rw [p24, p16, p8, fd (by omega), fd (by omega), fd (by omega), wrap_u8, wrap_u8, wrap_u8, wrap_u8, be4_int, ct (by (simp only [ne_eq, Bool.and_eq_true, Bool.or_eq_true, decide_eq_true_eq, beq_iff_eq, bne_iff_ne, Bool.not_eq_true', decide_eq_false_iff_not, and_true, true_and]; omega)), ct (by (simp only [ne_eq, Bool.and_eq_true, Bool.or_eq_true, decide_eq_true_eq, beq_iff_eq, bne_iff_ne, Bool.not_eq_true', decide_eq_false_iff_not, and_true, true_and]; omega)), ct (by simp [be4]; omega)]
  simp [wrapF]
/-! ### frames read -/
theorem cut_fold (b : List UInt8) (q n : Int) : List.drop q.toNat (List.take (q + n).toNat b) = cut b q n := rfl
theorem copy_rep (P : List UInt8) (m : Nat) (x : UInt8) (h : P.length = m) : List.take 0 (List.replicate m x) ++ (List.take (List.replicate m x).length P ++ List.drop (0 + (List.take (List.replicate m x).length P).length) (List.replicate m x)) = P := by
  subst h; simp
theorem hdr (a b d e : UInt8) : Go.bits .or .i64 (Go.bits .or .i64 (Go.bits .or .i64 (IntKind.i64.wrap (IntKind.i64.wrap (a.toNat : Int) * 16777216)) (IntKind.i64.wrap (IntKind.i64.wrap (b.toNat : Int) * 65536))) (IntKind.i64.wrap (IntKind.i64.wrap (d.toNat : Int) * 256))) (IntKind.i64.wrap (e.toNat : Int)) = ((a.toNat * 16777216 + b.toNat * 65536 + d.toNat * 256 + e.toNat : Nat) : Int) := by
  have ha := u8lt a; have hb := u8lt b; have hd := u8lt d; have he := u8lt e
  rw [i64w (n := (a.toNat : Int)) (by omega) (by omega), i64w (n := (b.toNat : Int)) (by omega) (by omega), i64w (n := (d.toNat : Int)) (by omega) (by omega), i64w (n := (e.toNat : Int)) (by omega) (by omega)]
  rw [i64w (n := (a.toNat : Int) * 16777216) (by omega) (by omega), i64w (n := (b.toNat : Int) * 65536) (by omega) (by omega), i64w (n := (d.toNat : Int) * 256) (by omega) (by omega)]
  rw [i64_or_join 24 ((a.toNat : Int) * 16777216) ((b.toNat : Int) * 65536) (by omega) (by omega) (by omega) (by omega) (by omega) (by omega), i64_or_join 16 ((a.toNat : Int) * 16777216 + (b.toNat : Int) * 65536) ((d.toNat : Int) * 256) (by omega) (by omega) (by omega) (by omega) (by omega) (by omega), i64_or_join 8 ((a.toNat : Int) * 16777216 + (b.toNat : Int) * 65536 + (d.toNat : Int) * 256) (e.toNat : Int) (by omega) (by omega) (by omega) (by omega) (by omega) (by omega)]
  omega
theorem Next_eq (b : List UInt8) (hlen : b.length ≤ 4611686018427387) (p : Int) : g41 b p = some (rNext b p) := by
  unfold g41 rNext
  rw [Num_eq b (by omega) p]
  simp only [Option.bind_some]
  by_cases h : (rNum b p).2.2 = 0
  · obtain ⟨g1, g2, g3, g4, g5⟩ := rNum_div h
    rw [if_pos h, cf (by (rw [Bool.eq_false_iff]; simp only [ne_eq, Bool.and_eq_true, Bool.or_eq_true, decide_eq_true_eq, beq_iff_eq, bne_iff_ne, Bool.not_eq_true', decide_eq_false_iff_not, and_true, true_and]; omega))]
    generalize (rNum b p).1 = n at *
    generalize (rNum b p).2.1 = q at *
    by_cases h1 : n < 0
    · rw [if_pos h1, ct (by (simp only [ne_eq, Bool.and_eq_true, Bool.or_eq_true, decide_eq_true_eq, beq_iff_eq, bne_iff_ne, Bool.not_eq_true', decide_eq_false_iff_not, and_true, true_and]; omega))]
    · by_cases h2 : n > 65536
      · rw [if_neg h1, if_pos h2, cf (by (rw [Bool.eq_false_iff]; simp only [ne_eq, Bool.and_eq_true, Bool.or_eq_true, decide_eq_true_eq, beq_iff_eq, bne_iff_ne, Bool.not_eq_true', decide_eq_false_iff_not, and_true, true_and]; omega)), ct (by (simp only [ne_eq, Bool.and_eq_true, Bool.or_eq_true, decide_eq_true_eq, beq_iff_eq, bne_iff_ne, Bool.not_eq_true', decide_eq_false_iff_not, and_true, true_and]; omega))]
      · rw [if_neg h1, if_neg h2, cf (by (rw [Bool.eq_false_iff]; simp only [ne_eq, Bool.and_eq_true, Bool.or_eq_true, decide_eq_true_eq, beq_iff_eq, bne_iff_ne, Bool.not_eq_true', decide_eq_false_iff_not, and_true, true_and]; omega)), cf (by (rw [Bool.eq_false_iff]; simp only [ne_eq, Bool.and_eq_true, Bool.or_eq_true, decide_eq_true_eq, beq_iff_eq, bne_iff_ne, Bool.not_eq_true', decide_eq_false_iff_not, and_true, true_and]; omega)), i64w (n := (b.length : Int) - q) (by omega) (by omega), i64w (n := 4 + n) (by omega) (by omega)]
        by_cases h3 : (b.length : Int) - q < 4 + n
        · rw [if_pos h3, ct (by (simp only [ne_eq, Bool.and_eq_true, Bool.or_eq_true, decide_eq_true_eq, beq_iff_eq, bne_iff_ne, Bool.not_eq_true', decide_eq_false_iff_not, and_true, true_and]; omega))]
        · rw [if_neg h3, cf (by (rw [Bool.eq_false_iff]; simp only [ne_eq, Bool.and_eq_true, Bool.or_eq_true, decide_eq_true_eq, beq_iff_eq, bne_iff_ne, Bool.not_eq_true', decide_eq_false_iff_not, and_true, true_and]; omega)), i64w (n := q + 4) (by omega) (by omega), i64w (n := q + 4 + n) (by omega) (by omega)]
          have hl4 : (cut b q 4).length = 4 := cut_length (by omega) (by omega) (by omega)
          have hln : (cut b (q + 4) n).length = n.toNat := cut_length (by omega) (by omega) (by omega)
          rw [cut_fold b q 4, cut_fold b (q + 4) n, hl4]
          rw [copy_rep _ _ _ hln, Sum_eq _ (by rw [hln]; omega)]
          simp only [Option.bind_some, or_fold, p24, p16, p8]
          rw [hdr, ct (by (simp only [ne_eq, Bool.and_eq_true, Bool.or_eq_true, decide_eq_true_eq, beq_iff_eq, bne_iff_ne, Bool.not_eq_true', decide_eq_false_iff_not, and_true, true_and]; omega)), ct (by (simp only [ne_eq, Bool.and_eq_true, Bool.or_eq_true, decide_eq_true_eq, beq_iff_eq, bne_iff_ne, Bool.not_eq_true', decide_eq_false_iff_not, and_true, true_and]; omega)), ct (by (simp only [ne_eq, Bool.and_eq_true, Bool.or_eq_true, decide_eq_true_eq, beq_iff_eq, bne_iff_ne, Bool.not_eq_true', decide_eq_false_iff_not, and_true, true_and]; omega)), ct (by simp), ct (by (simp only [ne_eq, Bool.and_eq_true, Bool.or_eq_true, decide_eq_true_eq, beq_iff_eq, bne_iff_ne, Bool.not_eq_true', decide_eq_false_iff_not, and_true, true_and]; omega)), ct (by (simp only [ne_eq, Bool.and_eq_true, Bool.or_eq_true, decide_eq_true_eq, beq_iff_eq, bne_iff_ne, Bool.not_eq_true', decide_eq_false_iff_not, and_true, true_and]; omega)), ct (by (simp only [ne_eq, Bool.and_eq_true, Bool.or_eq_true, decide_eq_true_eq, beq_iff_eq, bne_iff_ne, Bool.not_eq_true', decide_eq_false_iff_not, and_true, true_and]; omega)), ct (by (simp only [ne_eq, Bool.and_eq_true, Bool.or_eq_true, decide_eq_true_eq, beq_iff_eq, bne_iff_ne, Bool.not_eq_true', decide_eq_false_iff_not, and_true, true_and]; omega))]
          have hi := be4_iff hl4 (sum_lt (cut b (q + 4) n))
          by_cases h4 : cut b q 4 = be4 (sum (pay b q n))
          · rw [if_pos h4]
            have h5 := hi.2 h4
            rw [cf (by rw [Bool.eq_false_iff]; simp only [ne_eq, bne_iff_ne, Classical.not_not]; exact_mod_cast h5)]
            rfl
          · rw [if_neg h4]
            rw [ct (by simp only [bne_iff_ne, ne_eq]; intro h5; exact h4 (hi.1 (by exact_mod_cast h5)))]
  · rw [if_neg h, ct (by (simp only [ne_eq, Bool.and_eq_true, Bool.or_eq_true, decide_eq_true_eq, beq_iff_eq, bne_iff_ne, Bool.not_eq_true', decide_eq_false_iff_not, and_true, true_and]; omega))]
end Go.Proofs.Ytkklehfcadkikaa.EVT
