/- The law PackOnly: bytes that are accepted are those that are written for what was read. -/
import Derived.Test.YtkklehfcadkikaaPJ
import Derived.Test.YtkklehfcadkikaaUP
set_option linter.unusedVariables false
set_option linter.unusedSimpArgs false
namespace Go.Proofs.Ytkklehfcadkikaa.EVT
open Go Go.EV

theorem wf64 {n : Int} (h : (Lit.int .i64 n).wf = true) : -9223372036854775808 ≤ n ∧ n ≤ 9223372036854775807 := by
  simp [Lit.wf, IntKind.min, IntKind.max, IntKind.bits, IntKind.signed] at h
  omega
theorem awake03 : g19 = some true := by kernel_rfl
theorem cats_mem {s : List UInt8} : ∀ {L : List (List UInt8)}, s ∈ L → s.length ≤ (cats L).length
  | [], h => by simp at h
  | a :: r, h => by
    have hc : cats (a :: r) = cat a ++ cats r := rfl
    rw [hc, List.length_append]
    have hl := cat_len a
    rcases List.mem_cons.1 h with rfl | h
    · omega
    · have := cats_mem h; omega
theorem front {b x : List UInt8} {q : Int} (hq : q = 0 + (x.length : Int)) (h : (b.drop (Int.toNat 0)).take x.length = x) : List.drop 0 (List.take q.toNat b) = x := by
  rw [show q.toNat = x.length by omega]
  exact h
theorem law_only (b : List UInt8) (lim : Int) (hl : -9223372036854775808 ≤ lim ∧ lim ≤ 9223372036854775807) : g15 b lim = some true := by
  unfold g15
  by_cases h : (b.length : Int) > 400
  · rw [ct (by (simp only [ne_eq, Bool.and_eq_true, Bool.or_eq_true, decide_eq_true_eq, beq_iff_eq, bne_iff_ne, Bool.not_eq_true', decide_eq_false_iff_not, and_true, true_and]; omega)), awake03]; rfl
  · rw [cf (by (rw [Bool.eq_false_iff]; simp only [ne_eq, Bool.and_eq_true, Bool.or_eq_true, decide_eq_true_eq, beq_iff_eq, bne_iff_ne, Bool.not_eq_true', decide_eq_false_iff_not, and_true, true_and]; omega))]
    have last : ∀ (Q : Option Bool), Option.bind (g45 b 0 lim) (fun v6 => cond (v6.2.2 != 0) (Option.bind (g19) fun v7 => some (v7))
        (cond (decide (v6.2.1 ≥ 1)) (cond (decide (v6.2.1 ≤ (b.length : Int))) (cond (decide (((List.length v6.1 : Nat) : Int) ≤ lim))
          (Option.bind (g28 [] v6.1) fun v8 => cond (decide (0 ≤ v6.2.1) && decide (v6.2.1 ≤ (b.length : Int)) && true) (cond (v8 == List.drop 0 (List.take (Int.toNat v6.2.1) b)) (Option.bind (g19) fun v9 => some (v9)) (some false)) none)
          (some false)) (some false)) (some false))) = some true := by
      intro _
      rw [Texts_eq b (by omega) 0 lim hl.2]
      simp only [Option.bind_some]
      by_cases he : (rTexts b 0 lim).2.2 = 0
      · obtain ⟨g1, g2, g3, g4, g5, g6⟩ := rTexts_ok (b := b) (p := 0) (L := (rTexts b 0 lim).1) (q := (rTexts b 0 lim).2.1) trivial (Prod.ext rfl (Prod.ext rfl he))
        rw [cf (by (rw [Bool.eq_false_iff]; simp only [ne_eq, Bool.and_eq_true, Bool.or_eq_true, decide_eq_true_eq, beq_iff_eq, bne_iff_ne, Bool.not_eq_true', decide_eq_false_iff_not, and_true, true_and]; omega))]
        generalize (rTexts b 0 lim).1 = L at *
        generalize (rTexts b 0 lim).2.1 = q at *
        have hcl : (catl L).length = (enc (code (L.length : Int))).length + (cats L).length := by unfold catl; rw [List.length_append]
        have hge := cats_ge L
        have hql := congrArg List.length g6
        simp only [List.length_take, List.length_drop, Int.toNat_zero, Nat.sub_zero] at hql
        rw [ct (decide_eq_true (by omega)), ct (decide_eq_true (by omega)), ct (decide_eq_true (by omega)), PutTexts_eq [] L (fun s hs => by have := cats_mem hs; omega) (by omega) (by simp)]
        simp only [Option.bind_some]
        rw [ct (by (simp only [ne_eq, Bool.and_eq_true, Bool.or_eq_true, decide_eq_true_eq, beq_iff_eq, bne_iff_ne, Bool.not_eq_true', decide_eq_false_iff_not, and_true, true_and]; omega)), front g5 g6, List.nil_append, ct (by simp), awake03]
        rfl
      · rw [ct (by (simp only [ne_eq, Bool.and_eq_true, Bool.or_eq_true, decide_eq_true_eq, beq_iff_eq, bne_iff_ne, Bool.not_eq_true', decide_eq_false_iff_not, and_true, true_and]; omega)), awake03]; rfl
    have mid : ∀ (Q : Option Bool), Option.bind (g43 b 0 lim) (fun v4 => cond (v4.2.2 == 0) (cond (decide (v4.2.1 < 1)) (some false) (cond (decide (v4.2.1 > (b.length : Int))) (some false) (cond (decide (((List.length v4.1 : Nat) : Int) > lim)) (some false)
        (Option.bind (g26 [] v4.1) fun v5 => cond (decide (0 ≤ v4.2.1) && decide (v4.2.1 ≤ (b.length : Int)) && true) (cond (!v5 == List.drop 0 (List.take (Int.toNat v4.2.1) b)) (some false)
          (Option.bind (g45 b 0 lim) (fun v6 => cond (v6.2.2 != 0) (Option.bind (g19) fun v7 => some (v7))
        (cond (decide (v6.2.1 ≥ 1)) (cond (decide (v6.2.1 ≤ (b.length : Int))) (cond (decide (((List.length v6.1 : Nat) : Int) ≤ lim))
          (Option.bind (g28 [] v6.1) fun v8 => cond (decide (0 ≤ v6.2.1) && decide (v6.2.1 ≤ (b.length : Int)) && true) (cond (v8 == List.drop 0 (List.take (Int.toNat v6.2.1) b)) (Option.bind (g19) fun v9 => some (v9)) (some false)) none)
          (some false)) (some false)) (some false))))) none))))
        (Option.bind (g45 b 0 lim) (fun v6 => cond (v6.2.2 != 0) (Option.bind (g19) fun v7 => some (v7))
        (cond (decide (v6.2.1 ≥ 1)) (cond (decide (v6.2.1 ≤ (b.length : Int))) (cond (decide (((List.length v6.1 : Nat) : Int) ≤ lim))
          (Option.bind (g28 [] v6.1) fun v8 => cond (decide (0 ≤ v6.2.1) && decide (v6.2.1 ≤ (b.length : Int)) && true) (cond (v8 == List.drop 0 (List.take (Int.toNat v6.2.1) b)) (Option.bind (g19) fun v9 => some (v9)) (some false)) none)
          (some false)) (some false)) (some false))))) = some true := by
      intro _
      rw [Text_eq b (by omega) 0 lim]
      simp only [Option.bind_some]
      by_cases he : (rText b 0 lim).2.2 = 0
      · obtain ⟨g1, g2, g3, g4, g5, g6⟩ := rText_ok (b := b) (p := 0) (s := (rText b 0 lim).1) (q := (rText b 0 lim).2.1) trivial (Prod.ext rfl (Prod.ext rfl he))
        rw [ct (by (simp only [ne_eq, Bool.and_eq_true, Bool.or_eq_true, decide_eq_true_eq, beq_iff_eq, bne_iff_ne, Bool.not_eq_true', decide_eq_false_iff_not, and_true, true_and]; omega))]
        generalize (rText b 0 lim).1 = s at *
        generalize (rText b 0 lim).2.1 = q at *
        have hcl := cat_len s
        have hql := congrArg List.length g6
        simp only [List.length_take, List.length_drop, Int.toNat_zero, Nat.sub_zero] at hql
        rw [cf (decide_eq_false (by omega)), cf (decide_eq_false (by omega)), cf (decide_eq_false (by omega)), PutText_eq [] s (by simp; omega)]
        simp only [Option.bind_some]
        rw [ct (by (simp only [ne_eq, Bool.and_eq_true, Bool.or_eq_true, decide_eq_true_eq, beq_iff_eq, bne_iff_ne, Bool.not_eq_true', decide_eq_false_iff_not, and_true, true_and]; omega)), front g5 g6, List.nil_append, cf (by simp)]
        exact last none
      · rw [cf (by (rw [Bool.eq_false_iff]; simp only [ne_eq, Bool.and_eq_true, Bool.or_eq_true, decide_eq_true_eq, beq_iff_eq, bne_iff_ne, Bool.not_eq_true', decide_eq_false_iff_not, and_true, true_and]; omega))]
        exact last none
    rw [Num_eq b (by omega) 0]
    simp only [Option.bind_some]
    by_cases he : (rNum b 0).2.2 = 0
    · obtain ⟨g1, g2, g3, g4, g5, g6, g7⟩ := rNum_ok (b := b) (p := 0) (n := (rNum b 0).1) (q := (rNum b 0).2.1) trivial (Prod.ext rfl (Prod.ext rfl he))
      rw [ct (by (simp only [ne_eq, Bool.and_eq_true, Bool.or_eq_true, decide_eq_true_eq, beq_iff_eq, bne_iff_ne, Bool.not_eq_true', decide_eq_false_iff_not, and_true, true_and]; omega))]
      generalize (rNum b 0).1 = n at *
      generalize (rNum b 0).2.1 = q at *
      have he10 := enc_len10 (code_lt g4 g5)
      have hql := congrArg List.length g7
      simp only [List.length_take, List.length_drop, Int.toNat_zero, Nat.sub_zero] at hql
      rw [cf (decide_eq_false (by omega)), cf (decide_eq_false (by omega)), cf (decide_eq_false (by omega)), PutNum_eq [] n g4 g5 (by simp)]
      simp only [Option.bind_some]
      rw [ct (by (simp only [ne_eq, Bool.and_eq_true, Bool.or_eq_true, decide_eq_true_eq, beq_iff_eq, bne_iff_ne, Bool.not_eq_true', decide_eq_false_iff_not, and_true, true_and]; omega)), front g6 g7, List.nil_append, cf (by simp)]
      exact mid none
    · rw [cf (by (rw [Bool.eq_false_iff]; simp only [ne_eq, Bool.and_eq_true, Bool.or_eq_true, decide_eq_true_eq, beq_iff_eq, bne_iff_ne, Bool.not_eq_true', decide_eq_false_iff_not, and_true, true_and]; omega))]
      exact mid none
theorem PackOnly {a0 : Ty.den (.sl .u8)} {a1 : Ty.den (.i .i64)} (h0 : Bd _ a0) (h1 : Bd _ a1) : i15.G (a0, a1) = some true := law_only a0 a1 (wf64 (n := a1) h1)
end Go.Proofs.Ytkklehfcadkikaa.EVT
