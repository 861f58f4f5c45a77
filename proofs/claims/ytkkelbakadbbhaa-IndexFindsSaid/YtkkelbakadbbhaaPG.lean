/- What the printed functions of package record, and of its reference, compute. -/
import Derived.Test.YtkkelbakadbbhaaPF
set_option linter.unusedVariables false
set_option linter.unusedSimpArgs false
namespace Go.Proofs.Ytkkelbakadbbhaa.EVT
open Go Go.EV

theorem bne_dec (n k : Int) : (n != k) = !decide (n = k) := by rw [bne]; by_cases h : n = k <;> simp [h]
theorem beq_dec (s : List UInt8) : (s == []) = decide (s = []) := by cases s <;> simp
theorem Check_eq (o n : Int) (s v : List UInt8) : g22 o n s v = some (chk o n s v) := by
  unfold g22 chk ck0 ck1 ck2
  simp only [beq_dec s, beq_dec v, bne_dec n]
  by_cases h0 : o < 0
  · simp [h0]
  by_cases h1 : 1099511627776 < o
  · simp [h0, h1]
  by_cases n1 : n = 1 <;> by_cases n2 : n = 2 <;> by_cases n3 : n = 3 <;> by_cases hs : s = [] <;> by_cases k1 : 64 < (s.length : Int) <;> by_cases k2 : 4096 < (v.length : Int) <;> by_cases hv : v = [] <;> first | omega | simp [h0, h1, n1, n2, n3, hs, k1, k2, hv]
theorem ref_Check_eq (o n : Int) (s v : List UInt8) : g23 o n s v = some (chk o n s v) := by
  unfold g23 chk ck0 ck1 ck2
  simp only [beq_dec s, beq_dec v, bne_dec n]
  by_cases h0 : o < 0
  · simp [h0]
  by_cases h1 : 1099511627776 < o
  · simp [h0, h1]
  by_cases n4 : n < 1
  · have n1 : ¬ n = 1 := by omega
    have n2 : ¬ n = 2 := by omega
    have n3 : ¬ n = 3 := by omega
    simp [h0, h1, n1, n2, n3, n4]
  by_cases n5 : 3 < n
  · have n1 : ¬ n = 1 := by omega
    have n2 : ¬ n = 2 := by omega
    have n3 : ¬ n = 3 := by omega
    simp [h0, h1, n1, n2, n3, n4, n5]
  by_cases n1 : n = 1 <;> by_cases n2 : n = 2 <;> by_cases n3 : n = 3 <;> by_cases hs : s = [] <;> by_cases k1 : 64 < (s.length : Int) <;> by_cases k2 : 4096 < (v.length : Int) <;> by_cases hv : v = [] <;> first | omega | simp [h0, h1, n1, n2, n3, n4, n5, hs, k1, k2, hv]
theorem Encode_eq (o n : Int) (s v : List UInt8) : g25 o n s v = some (rEnc o n s v) := by
  unfold g25 rEnc
  rw [Check_eq]
  simp only [Option.bind_some]
  by_cases h : chk o n s v = 0
  · obtain ⟨h0, h1, h2, h3, h4, h5, h6⟩ := chk_zero.1 h
    have hp := pld_len h
    have hr := rec_len h
    have a1 := enc_len10 (code_lt (n := o) (by omega) (by omega))
    have a2 := enc_len10 (code_lt (n := n) (by omega) (by omega))
    have a3 := cat_le s (by omega)
    rw [if_pos h, cf (by (rw [Bool.eq_false_iff]; simp only [ne_eq, Bool.and_eq_true, Bool.or_eq_true, decide_eq_true_eq, beq_iff_eq, bne_iff_ne, Bool.not_eq_true', decide_eq_false_iff_not, and_true, true_and]; omega)), PutNum_eq [] o (by omega) (by omega) (by simp)]
    simp only [Option.bind_some, List.nil_append]
    rw [PutNum_eq _ n (by omega) (by omega) (by omega)]
    simp only [Option.bind_some]
    rw [PutText_eq _ s (by simp only [List.length_append]; omega)]
    simp only [Option.bind_some]
    rw [PutText_eq _ v (by simp only [List.length_append]; omega)]
    simp only [Option.bind_some]
    have e : enc (code o) ++ enc (code n) ++ cat s ++ cat v = pld o n s v := by unfold pld; simp
    rw [e, Wrap_eq _ (by omega)]
    simp only [Option.bind_some]
    rw [ct (by unfold rec_ at hr; (simp only [ne_eq, Bool.and_eq_true, Bool.or_eq_true, decide_eq_true_eq, beq_iff_eq, bne_iff_ne, Bool.not_eq_true', decide_eq_false_iff_not, and_true, true_and]; omega)), ct (by simp), Int.toNat_natCast, take_rep]
    rfl
  · rw [if_neg h, ct (by (simp only [ne_eq, Bool.and_eq_true, Bool.or_eq_true, decide_eq_true_eq, beq_iff_eq, bne_iff_ne, Bool.not_eq_true', decide_eq_false_iff_not, and_true, true_and]; omega))]
theorem ref_Encode_eq (o n : Int) (s v : List UInt8) : g26 o n s v = some (rEnc o n s v) := by
  unfold g26 rEnc
  rw [ref_Check_eq]
  simp only [Option.bind_some]
  by_cases h : chk o n s v = 0
  · obtain ⟨h0, h1, h2, h3, h4, h5, h6⟩ := chk_zero.1 h
    have hp := pld_len h
    have a1 := enc_len10 (code_lt (n := o) (by omega) (by omega))
    have a2 := enc_len10 (code_lt (n := n) (by omega) (by omega))
    have a3 := cat_le s (by omega)
    rw [if_pos h, cf (by (rw [Bool.eq_false_iff]; simp only [ne_eq, Bool.and_eq_true, Bool.or_eq_true, decide_eq_true_eq, beq_iff_eq, bne_iff_ne, Bool.not_eq_true', decide_eq_false_iff_not, and_true, true_and]; omega)), ref_PutNum_eq [] o (by omega) (by omega) (by simp)]
    simp only [Option.bind_some, List.nil_append]
    rw [ref_PutNum_eq _ n (by omega) (by omega) (by omega)]
    simp only [Option.bind_some]
    rw [ref_PutText_eq _ s (by simp only [List.length_append]; omega)]
    simp only [Option.bind_some]
    rw [ref_PutText_eq _ v (by simp only [List.length_append]; omega)]
    simp only [Option.bind_some]
    have e : enc (code o) ++ enc (code n) ++ cat s ++ cat v = pld o n s v := by unfold pld; simp
    rw [e, ref_Wrap_eq _ (by omega)]
    rfl
  · rw [if_neg h, ct (by (simp only [ne_eq, Bool.and_eq_true, Bool.or_eq_true, decide_eq_true_eq, beq_iff_eq, bne_iff_ne, Bool.not_eq_true', decide_eq_false_iff_not, and_true, true_and]; omega))]
theorem Size_eq (o n : Int) (s v : List UInt8) : g28 o n s v = some (((rEnc o n s v).1.length : Nat) : Int) := by
  unfold g28; rw [Encode_eq]; rfl
theorem ref_Size_eq (o n : Int) (s v : List UInt8) : g63 o n s v = some (((rEnc o n s v).1.length : Nat) : Int) := by
  unfold g63; rw [ref_Encode_eq]; rfl
theorem rNext_len (b : List UInt8) (p : Int) : (rNext b p).1.length ≤ 65536 := (rNext_byt trivial p).2
theorem Decode_eq (b : List UInt8) (hlen : b.length ≤ 4611686018427387) (p : Int) : g29 b p = some ((fun r : Int × Int × List UInt8 × List UInt8 × Int × Int => ((r.1, r.2.1, r.2.2.1, r.2.2.2.1), r.2.2.2.2.1, r.2.2.2.2.2)) (rDec b p)) := by
  unfold g29 rDec
  rw [Next_eq b hlen p]
  simp only [Option.bind_some]
  have hl := rNext_len b p
  by_cases h0 : (rNext b p).2.2 = 0
  · rw [if_pos h0, cf (by (rw [Bool.eq_false_iff]; simp only [ne_eq, Bool.and_eq_true, Bool.or_eq_true, decide_eq_true_eq, beq_iff_eq, bne_iff_ne, Bool.not_eq_true', decide_eq_false_iff_not, and_true, true_and]; omega))]
    generalize (rNext b p).1 = x at *
    generalize (rNext b p).2.1 = q' at *
    rw [Num_eq x (by omega) 0]
    simp only [Option.bind_some]
    by_cases h1 : (rNum x 0).2.2 = 0
    · rw [if_pos h1, cf (by (rw [Bool.eq_false_iff]; simp only [ne_eq, Bool.and_eq_true, Bool.or_eq_true, decide_eq_true_eq, beq_iff_eq, bne_iff_ne, Bool.not_eq_true', decide_eq_false_iff_not, and_true, true_and]; omega)), Num_eq x (by omega) _]
      simp only [Option.bind_some]
      by_cases h2 : (rNum x (rNum x 0).2.1).2.2 = 0
      · rw [if_pos h2, cf (by (rw [Bool.eq_false_iff]; simp only [ne_eq, Bool.and_eq_true, Bool.or_eq_true, decide_eq_true_eq, beq_iff_eq, bne_iff_ne, Bool.not_eq_true', decide_eq_false_iff_not, and_true, true_and]; omega)), Text_eq x (by omega) _ _]
        simp only [Option.bind_some]
        by_cases h3 : (rText x (rNum x (rNum x 0).2.1).2.1 64).2.2 = 0
        · rw [if_pos h3, cf (by (rw [Bool.eq_false_iff]; simp only [ne_eq, Bool.and_eq_true, Bool.or_eq_true, decide_eq_true_eq, beq_iff_eq, bne_iff_ne, Bool.not_eq_true', decide_eq_false_iff_not, and_true, true_and]; omega)), Text_eq x (by omega) _ _]
          simp only [Option.bind_some]
          by_cases h4 : (rText x (rText x (rNum x (rNum x 0).2.1).2.1 64).2.1 4096).2.2 = 0
          · rw [if_pos h4, cf (by (rw [Bool.eq_false_iff]; simp only [ne_eq, Bool.and_eq_true, Bool.or_eq_true, decide_eq_true_eq, beq_iff_eq, bne_iff_ne, Bool.not_eq_true', decide_eq_false_iff_not, and_true, true_and]; omega))]
            by_cases h5 : (rText x (rText x (rNum x (rNum x 0).2.1).2.1 64).2.1 4096).2.1 < (x.length : Int)
            · rw [if_pos h5, ct (by (simp only [ne_eq, Bool.and_eq_true, Bool.or_eq_true, decide_eq_true_eq, beq_iff_eq, bne_iff_ne, Bool.not_eq_true', decide_eq_false_iff_not, and_true, true_and]; omega))]
            · rw [if_neg h5, cf (by (rw [Bool.eq_false_iff]; simp only [ne_eq, Bool.and_eq_true, Bool.or_eq_true, decide_eq_true_eq, beq_iff_eq, bne_iff_ne, Bool.not_eq_true', decide_eq_false_iff_not, and_true, true_and]; omega)), Check_eq]
              simp only [Option.bind_some]
              by_cases h6 : chk (rNum x 0).1 (rNum x (rNum x 0).2.1).1 (rText x (rNum x (rNum x 0).2.1).2.1 64).1 (rText x (rText x (rNum x (rNum x 0).2.1).2.1 64).2.1 4096).1 = 0
              · rw [if_pos h6, cf (by (rw [Bool.eq_false_iff]; simp only [ne_eq, Bool.and_eq_true, Bool.or_eq_true, decide_eq_true_eq, beq_iff_eq, bne_iff_ne, Bool.not_eq_true', decide_eq_false_iff_not, and_true, true_and]; omega))]
              · rw [if_neg h6, ct (by (simp only [ne_eq, Bool.and_eq_true, Bool.or_eq_true, decide_eq_true_eq, beq_iff_eq, bne_iff_ne, Bool.not_eq_true', decide_eq_false_iff_not, and_true, true_and]; omega))]
          · rw [if_neg h4, ct (by (simp only [ne_eq, Bool.and_eq_true, Bool.or_eq_true, decide_eq_true_eq, beq_iff_eq, bne_iff_ne, Bool.not_eq_true', decide_eq_false_iff_not, and_true, true_and]; omega))]
        · rw [if_neg h3, ct (by (simp only [ne_eq, Bool.and_eq_true, Bool.or_eq_true, decide_eq_true_eq, beq_iff_eq, bne_iff_ne, Bool.not_eq_true', decide_eq_false_iff_not, and_true, true_and]; omega))]
      · rw [if_neg h2, ct (by (simp only [ne_eq, Bool.and_eq_true, Bool.or_eq_true, decide_eq_true_eq, beq_iff_eq, bne_iff_ne, Bool.not_eq_true', decide_eq_false_iff_not, and_true, true_and]; omega))]
    · rw [if_neg h1, ct (by (simp only [ne_eq, Bool.and_eq_true, Bool.or_eq_true, decide_eq_true_eq, beq_iff_eq, bne_iff_ne, Bool.not_eq_true', decide_eq_false_iff_not, and_true, true_and]; omega))]
  · rw [if_neg h0, ct (by (simp only [ne_eq, Bool.and_eq_true, Bool.or_eq_true, decide_eq_true_eq, beq_iff_eq, bne_iff_ne, Bool.not_eq_true', decide_eq_false_iff_not, and_true, true_and]; omega))]
theorem RNum_eq (b : List UInt8) (hlen : b.length ≤ 4611686018427387) (p e : Int) : g74 b p e = some ((sNum b p e).1, b, (sNum b p e).2.1, (sNum b p e).2.2) := by
  unfold g74 sNum
  by_cases h : e = 0
  · rw [cf (by (rw [Bool.eq_false_iff]; simp only [ne_eq, Bool.and_eq_true, Bool.or_eq_true, decide_eq_true_eq, beq_iff_eq, bne_iff_ne, Bool.not_eq_true', decide_eq_false_iff_not, and_true, true_and]; omega)), if_pos h, ref_Num_eq b (by omega)]
    simp only [Option.bind_some]
    by_cases h1 : (rNum b p).2.2 = 0
    · rw [cf (by (rw [Bool.eq_false_iff]; simp only [ne_eq, Bool.and_eq_true, Bool.or_eq_true, decide_eq_true_eq, beq_iff_eq, bne_iff_ne, Bool.not_eq_true', decide_eq_false_iff_not, and_true, true_and]; omega)), if_pos h1]
    · rw [ct (by (simp only [ne_eq, Bool.and_eq_true, Bool.or_eq_true, decide_eq_true_eq, beq_iff_eq, bne_iff_ne, Bool.not_eq_true', decide_eq_false_iff_not, and_true, true_and]; omega)), if_neg h1]
  · rw [ct (by (simp only [ne_eq, Bool.and_eq_true, Bool.or_eq_true, decide_eq_true_eq, beq_iff_eq, bne_iff_ne, Bool.not_eq_true', decide_eq_false_iff_not, and_true, true_and]; omega)), if_neg h]
theorem RText_eq (b : List UInt8) (hlen : b.length ≤ 4611686018427387) (p e lim : Int) : g75 b p e lim = some ((sText b p e lim).1, b, (sText b p e lim).2.1, (sText b p e lim).2.2) := by
  unfold g75 sText
  by_cases h : e = 0
  · rw [cf (by (rw [Bool.eq_false_iff]; simp only [ne_eq, Bool.and_eq_true, Bool.or_eq_true, decide_eq_true_eq, beq_iff_eq, bne_iff_ne, Bool.not_eq_true', decide_eq_false_iff_not, and_true, true_and]; omega)), if_pos h, ref_Text_eq b (by omega)]
    simp only [Option.bind_some]
    by_cases h1 : (rText b p lim).2.2 = 0
    · rw [cf (by (rw [Bool.eq_false_iff]; simp only [ne_eq, Bool.and_eq_true, Bool.or_eq_true, decide_eq_true_eq, beq_iff_eq, bne_iff_ne, Bool.not_eq_true', decide_eq_false_iff_not, and_true, true_and]; omega)), if_pos h1]
    · rw [ct (by (simp only [ne_eq, Bool.and_eq_true, Bool.or_eq_true, decide_eq_true_eq, beq_iff_eq, bne_iff_ne, Bool.not_eq_true', decide_eq_false_iff_not, and_true, true_and]; omega)), if_neg h1]
  · rw [ct (by (simp only [ne_eq, Bool.and_eq_true, Bool.or_eq_true, decide_eq_true_eq, beq_iff_eq, bne_iff_ne, Bool.not_eq_true', decide_eq_false_iff_not, and_true, true_and]; omega)), if_neg h]
theorem sNum_bad {b : List UInt8} {p e : Int} (h : ¬ e = 0) : sNum b p e = (0, p, e) := by unfold sNum; rw [if_neg h]
theorem sNum_good {b : List UInt8} {p : Int} (h : (rNum b p).2.2 = 0) : sNum b p 0 = ((rNum b p).1, (rNum b p).2.1, 0) := by unfold sNum; rw [if_pos rfl, if_pos h]
theorem sNum_fail {b : List UInt8} {p : Int} (h : ¬ (rNum b p).2.2 = 0) : sNum b p 0 = (0, p, (rNum b p).2.2) := by unfold sNum; rw [if_pos rfl, if_neg h]
theorem sText_bad {b : List UInt8} {p e lim : Int} (h : ¬ e = 0) : sText b p e lim = ([], p, e) := by unfold sText; rw [if_neg h]
theorem sText_good {b : List UInt8} {p lim : Int} (h : (rText b p lim).2.2 = 0) : sText b p 0 lim = ((rText b p lim).1, (rText b p lim).2.1, 0) := by unfold sText; rw [if_pos rfl, if_pos h]
theorem sText_fail {b : List UInt8} {p lim : Int} (h : ¬ (rText b p lim).2.2 = 0) : sText b p 0 lim = ([], p, (rText b p lim).2.2) := by unfold sText; rw [if_pos rfl, if_neg h]
theorem ref_Decode_eq (b : List UInt8) (hlen : b.length ≤ 4611686018427387) (p : Int) : g30 b p = some ((fun r : Int × Int × List UInt8 × List UInt8 × Int × Int => ((r.1, r.2.1, r.2.2.1, r.2.2.2.1), r.2.2.2.2.1, r.2.2.2.2.2)) (rDec b p)) := by
  unfold g30 rDec
  rw [ref_Next_eq b hlen p]
  simp only [Option.bind_some]
  have hl := rNext_len b p
  by_cases h0 : (rNext b p).2.2 = 0
  · rw [if_pos h0, cf (by (rw [Bool.eq_false_iff]; simp only [ne_eq, Bool.and_eq_true, Bool.or_eq_true, decide_eq_true_eq, beq_iff_eq, bne_iff_ne, Bool.not_eq_true', decide_eq_false_iff_not, and_true, true_and]; omega))]
    generalize (rNext b p).1 = x at *
    generalize (rNext b p).2.1 = q' at *
    rw [RNum_eq x (by omega) 0]
    simp only [Option.bind_some]
    by_cases h1 : (rNum x 0).2.2 = 0
    · rw [if_pos h1, sNum_good h1]
      dsimp only
      rw [RNum_eq x (by omega) _]
      simp only [Option.bind_some]
      by_cases h2 : (rNum x (rNum x 0).2.1).2.2 = 0
      · rw [if_pos h2, sNum_good h2]
        dsimp only
        rw [RText_eq x (by omega) _ _]
        simp only [Option.bind_some]
        by_cases h3 : (rText x (rNum x (rNum x 0).2.1).2.1 64).2.2 = 0
        · rw [if_pos h3, sText_good h3]
          dsimp only
          rw [RText_eq x (by omega) _ _]
          simp only [Option.bind_some]
          by_cases h4 : (rText x (rText x (rNum x (rNum x 0).2.1).2.1 64).2.1 4096).2.2 = 0
          · rw [if_pos h4, sText_good h4]
            dsimp only
            rw [ct (by rfl)]
            by_cases h5 : (rText x (rText x (rNum x (rNum x 0).2.1).2.1 64).2.1 4096).2.1 < (x.length : Int)
            · rw [if_pos h5, ct (by (simp only [ne_eq, Bool.and_eq_true, Bool.or_eq_true, decide_eq_true_eq, beq_iff_eq, bne_iff_ne, Bool.not_eq_true', decide_eq_false_iff_not, and_true, true_and]; omega))]
            · rw [if_neg h5, cf (by (rw [Bool.eq_false_iff]; simp only [ne_eq, Bool.and_eq_true, Bool.or_eq_true, decide_eq_true_eq, beq_iff_eq, bne_iff_ne, Bool.not_eq_true', decide_eq_false_iff_not, and_true, true_and]; omega)), ct (by rfl), ref_Check_eq]
              simp only [Option.bind_some]
              by_cases h6 : chk (rNum x 0).1 (rNum x (rNum x 0).2.1).1 (rText x (rNum x (rNum x 0).2.1).2.1 64).1 (rText x (rText x (rNum x (rNum x 0).2.1).2.1 64).2.1 4096).1 = 0
              · rw [if_pos h6, cf (by (rw [Bool.eq_false_iff]; simp only [ne_eq, Bool.and_eq_true, Bool.or_eq_true, decide_eq_true_eq, beq_iff_eq, bne_iff_ne, Bool.not_eq_true', decide_eq_false_iff_not, and_true, true_and]; omega))]
              · rw [if_neg h6, ct (by (simp only [ne_eq, Bool.and_eq_true, Bool.or_eq_true, decide_eq_true_eq, beq_iff_eq, bne_iff_ne, Bool.not_eq_true', decide_eq_false_iff_not, and_true, true_and]; omega))]
          · rw [if_neg h4, sText_fail h4]; dsimp only; rw [cf (by (rw [Bool.eq_false_iff]; simp only [ne_eq, Bool.and_eq_true, Bool.or_eq_true, decide_eq_true_eq, beq_iff_eq, bne_iff_ne, Bool.not_eq_true', decide_eq_false_iff_not, and_true, true_and]; omega)), cf (by (rw [Bool.eq_false_iff]; simp only [ne_eq, Bool.and_eq_true, Bool.or_eq_true, decide_eq_true_eq, beq_iff_eq, bne_iff_ne, Bool.not_eq_true', decide_eq_false_iff_not, and_true, true_and]; omega)), ct (by (simp only [ne_eq, Bool.and_eq_true, Bool.or_eq_true, decide_eq_true_eq, beq_iff_eq, bne_iff_ne, Bool.not_eq_true', decide_eq_false_iff_not, and_true, true_and]; omega))]
        · rw [if_neg h3, sText_fail h3]; dsimp only; rw [RText_eq x (by omega)]; simp only [Option.bind_some]; rw [sText_bad h3]; dsimp only; rw [cf (by (rw [Bool.eq_false_iff]; simp only [ne_eq, Bool.and_eq_true, Bool.or_eq_true, decide_eq_true_eq, beq_iff_eq, bne_iff_ne, Bool.not_eq_true', decide_eq_false_iff_not, and_true, true_and]; omega)), cf (by (rw [Bool.eq_false_iff]; simp only [ne_eq, Bool.and_eq_true, Bool.or_eq_true, decide_eq_true_eq, beq_iff_eq, bne_iff_ne, Bool.not_eq_true', decide_eq_false_iff_not, and_true, true_and]; omega)), ct (by (simp only [ne_eq, Bool.and_eq_true, Bool.or_eq_true, decide_eq_true_eq, beq_iff_eq, bne_iff_ne, Bool.not_eq_true', decide_eq_false_iff_not, and_true, true_and]; omega))]
      · rw [if_neg h2, sNum_fail h2]; dsimp only; rw [RText_eq x (by omega)]; simp only [Option.bind_some]; rw [sText_bad h2]; dsimp only; rw [RText_eq x (by omega)]; simp only [Option.bind_some]; rw [sText_bad h2]; dsimp only; rw [cf (by (rw [Bool.eq_false_iff]; simp only [ne_eq, Bool.and_eq_true, Bool.or_eq_true, decide_eq_true_eq, beq_iff_eq, bne_iff_ne, Bool.not_eq_true', decide_eq_false_iff_not, and_true, true_and]; omega)), cf (by (rw [Bool.eq_false_iff]; simp only [ne_eq, Bool.and_eq_true, Bool.or_eq_true, decide_eq_true_eq, beq_iff_eq, bne_iff_ne, Bool.not_eq_true', decide_eq_false_iff_not, and_true, true_and]; omega)), ct (by (simp only [ne_eq, Bool.and_eq_true, Bool.or_eq_true, decide_eq_true_eq, beq_iff_eq, bne_iff_ne, Bool.not_eq_true', decide_eq_false_iff_not, and_true, true_and]; omega))]
    · rw [if_neg h1, sNum_fail h1]; dsimp only; rw [RNum_eq x (by omega)]; simp only [Option.bind_some]; rw [sNum_bad h1]; dsimp only; rw [RText_eq x (by omega)]; simp only [Option.bind_some]; rw [sText_bad h1]; dsimp only; rw [RText_eq x (by omega)]; simp only [Option.bind_some]; rw [sText_bad h1]; dsimp only; rw [cf (by (rw [Bool.eq_false_iff]; simp only [ne_eq, Bool.and_eq_true, Bool.or_eq_true, decide_eq_true_eq, beq_iff_eq, bne_iff_ne, Bool.not_eq_true', decide_eq_false_iff_not, and_true, true_and]; omega)), cf (by (rw [Bool.eq_false_iff]; simp only [ne_eq, Bool.and_eq_true, Bool.or_eq_true, decide_eq_true_eq, beq_iff_eq, bne_iff_ne, Bool.not_eq_true', decide_eq_false_iff_not, and_true, true_and]; omega)), ct (by (simp only [ne_eq, Bool.and_eq_true, Bool.or_eq_true, decide_eq_true_eq, beq_iff_eq, bne_iff_ne, Bool.not_eq_true', decide_eq_false_iff_not, and_true, true_and]; omega))]
  · rw [if_neg h0, ct (by (simp only [ne_eq, Bool.and_eq_true, Bool.or_eq_true, decide_eq_true_eq, beq_iff_eq, bne_iff_ne, Bool.not_eq_true', decide_eq_false_iff_not, and_true, true_and]; omega))]
end Go.Proofs.Ytkkelbakadbbhaa.EVT
