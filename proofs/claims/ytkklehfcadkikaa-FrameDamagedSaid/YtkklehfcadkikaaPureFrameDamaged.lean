/- The law FrameDamaged, out of what its functions compute. -/
import Derived.Test.YtkklehfcadkikaaFb
import Derived.Test.YtkklehfcadkikaaSg
import Derived.Test.YtkklehfcadkikaaJx17
set_option linter.unusedVariables false
set_option linter.unusedSimpArgs false
namespace Go.Proofs.Ytkklehfcadkikaa.Pure
open Go.RowKit Go.Proofs.YtkklehfcadkikaaW.PrintWords Go.Proofs.YtkklehfcadkikaaW.PrintLast Go.Proofs.YtkklehfcadkikaaW.PrintMore Go.Proofs.Ytkklehfcadkikaa.J Go.Proofs.Ytkklehfcadkikaa.Sp
theorem xor_ne {a b : Nat} (hb : b ≠ 0) : a ^^^ b ≠ a := by
  intro h
  apply hb
  have : a ^^^ (a ^^^ b) = a ^^^ a := by rw [h]
  rwa [← Nat.xor_assoc, Nat.xor_self, Nat.zero_xor] at this
theorem FrameDamaged (x0 : List Int) (x1 : Int) (x2 : Int) : (x0.length ≤ maxLen ∧ ∀ q_ ∈ x0, (Lit.int .u8 q_).wf = true) → ((Lit.int .i64 x1).wf = true) → ((Lit.int .u8 x2).wf = true) → ∃ k, brokerlaw04_FrameDamaged.f k x0 x1 x2 = some true := by
  rintro ⟨_, hw⟩ _ hw2
  have hb := byt_of_wf hw
  obtain ⟨u0, u1⟩ := wf8 hw2
  apply Ev.rounds
  have out : Ev (fun k => brokerlaw04_FrameDamaged.j0 k x0 x1 x2 true) true := Ev.step (fun k => by simp only [brokerlaw04_FrameDamaged.j0, if_true]) (Ev.bind awake04 (Ev.now _))
  unfold brokerlaw04_FrameDamaged.f
  by_cases h0 : (x0.length : Int) > 600
  · exact Ev.pos h0 out
  · refine Ev.neg h0 ?_
    by_cases h1 : x1 < 0
    · exact Ev.pos h1 out
    · refine Ev.neg h1 ?_
      rw [wrap64_in (n := (x0.length : Int) + 4) (by omega) (by omega)]
      by_cases h2 : x1 ≥ (x0.length : Int) + 4
      · exact Ev.pos h2 out
      · refine Ev.neg h2 ?_
        by_cases h3 : x2 = 0
        · rw [show (x2 == 0) = true from beq_iff_eq.2 h3]; exact out
        · rw [show (x2 == 0) = false from beq_eq_false_iff_ne.2 h3]
          have hl := wrapF_len x0
          have hp := enc_pos (code (x0.length : Int))
          have he := enc_len10 (code_lt (n := (x0.length : Int)) (by omega) (by omega))
          have hwb := wrapF_byt hb
          refine Ev.step (fun k => by simp only [brokerlaw04_FrameDamaged.j0]; rw [if_neg (by simp)]) ?_
          refine Ev.get rfl (Ev.bind (frame_Wrap_ev x0 hb (by omega)) (Ev.pos (by simp; omega) (Ev.get rfl (Ev.bind (frame_Size_ev _) ?_))))
          rw [List.nil_append]
          refine Ev.pos (sizeF_len x0 (by omega)).symm ?_
          rw [wrap64_in (n := (x0.length : Int) + 5) (by omega) (by omega), decide_eq_false (by omega)]
          refine Ev.step (fun k => by simp only [brokerlaw04_FrameDamaged.j1]; rw [if_neg (by simp)]) ?_
          rw [wrap64_in (n := ((wrapF x0).length : Int) - 1) (by omega) (by omega), wrap64_in (n := ((wrapF x0).length : Int) - 1 - x1) (by omega) (by omega)]
          obtain ⟨i, hi⟩ := Int.eq_ofNat_of_zero_le (by omega : 0 ≤ ((wrapF x0).length : Int) - 1 - x1)
          rw [hi, Int.toNat_natCast]
          have hil : i < (wrapF x0).length := by omega
          have hx := rd_byt hwb hil
          obtain ⟨a, ha⟩ := Int.eq_ofNat_of_zero_le hx.1
          obtain ⟨c, hc⟩ := Int.eq_ofNat_of_zero_le u0
          have hget : (wrapF x0)[i] = (a : Int) := by rw [← ha]; simp [rd, List.getD_eq_getElem?_getD, List.getElem?_eq_getElem hil]
          have hx8 : Go.bits .xor .u8 (rd (wrapF x0) (i : Int)) x2 = ((a ^^^ c : Nat) : Int) := by rw [ha, hc, bits_xor_nat .u8 8 (by decide) wraps_u8 a c (by omega) (by omega)]
          have hlt : a ^^^ c < 256 := Nat.xor_lt_two_pow (n := 8) (by omega) (by omega)
          have hne := xor_ne (a := a) (b := c) (by omega)
          rw [hx8]
          have hd := rNext_damaged x0 hb (by omega) i (by omega) hil ((a ^^^ c : Nat) : Int) (by omega) (by omega) (by rw [hget]; omega) []
          rw [List.append_nil] at hd
          have hsb : Byt ((wrapF x0).set i ((a ^^^ c : Nat) : Int)) := by
            intro z hz
            rcases List.mem_or_eq_of_mem_set hz with hz | rfl
            · exact hwb z hz
            · omega
          refine Ev.pos (by omega) (Ev.pos (by omega) (Ev.bind (frame_Next_ev _ hsb (by rw [List.length_set]; omega) 0) ?_))
          rw [hd]
          exact Ev.pos rfl (Ev.pos rfl (Ev.pos rfl (Ev.bind awake04 (Ev.now _))))
end Go.Proofs.Ytkklehfcadkikaa.Pure
