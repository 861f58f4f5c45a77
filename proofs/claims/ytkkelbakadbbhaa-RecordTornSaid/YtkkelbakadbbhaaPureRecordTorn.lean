/- The law RecordTorn, out of what its functions compute. -/
import Derived.Test.YtkkelbakadbbhaaRb
import Derived.Test.YtkkelbakadbbhaaJbrokerlaw31RecordTorn
set_option linter.unusedVariables false
set_option linter.unusedSimpArgs false
namespace Go.Proofs.Ytkkelbakadbbhaa.Pure
open Go.RowKit Go.Proofs.YtkkelbakadbbhaaW.PrintWords Go.Proofs.YtkkelbakadbbhaaW.PrintLast Go.Proofs.YtkkelbakadbbhaaW.PrintMore Go.Proofs.Ytkkelbakadbbhaa.J Go.Proofs.Ytkkelbakadbbhaa.Sp
theorem xor_ne {a b : Nat} (hb : b ≠ 0) : a ^^^ b ≠ a := by
  intro h
  apply hb
  have : a ^^^ (a ^^^ b) = a ^^^ a := by rw [h]
  rwa [← Nat.xor_assoc, Nat.xor_self, Nat.zero_xor] at this
theorem RecordTorn (x0_0 : Int) (x0_1 : Int) (x0_2 : ByteArray) (x0_3 : ByteArray) (x1_0 : Int) (x1_1 : Int) (x1_2 : Int) : ((Lit.int .i64 x0_0).wf = true) → ((Lit.int .i64 x0_1).wf = true) → (x0_2.size ≤ maxLen) → (x0_3.size ≤ maxLen) → ((Lit.int .i64 x1_0).wf = true) → ((Lit.int .i64 x1_1).wf = true) → ((Lit.int .u8 x1_2).wf = true) → ∃ k, brokerlaw31_RecordTorn.f k x0_0 x0_1 x0_2 x0_3 x1_0 x1_1 x1_2 = some true := by
  intro _ _ _ _ hc0 hc1 hw8
  obtain ⟨v0, v1⟩ := wf64 hc0
  obtain ⟨v2, v3⟩ := wf64 hc1
  obtain ⟨u0, u1⟩ := wf8 hw8
  apply Ev.rounds
  unfold brokerlaw31_RecordTorn.f
  refine Ev.bind (ref31_Check_ev _ _ _ _) ?_
  by_cases hc : chk x0_0 x0_1 x0_2 x0_3 = 0
  · refine Ev.pos hc (Ev.bind (record_Encode_ev _ _ _ _) ?_)
    have hr := rec_len hc
    have hq := pld_len hc
    have hwb := rec_byt x0_0 x0_1 x0_2 x0_3
    simp only [rEnc, if_pos hc]
    refine Ev.pos trivial ?_
    have h10 : ¬ ((rec_ x0_0 x0_1 x0_2 x0_3).length : Int) < 10 := by
      omega
    rw [decide_eq_false h10]
    refine Ev.step (fun k => by simp only [brokerlaw31_RecordTorn.j0]; rw [if_neg (by simp)]) ?_
    have last : ∀ b : Bool, (b = true → x1_1 ≥ 0 ∧ x1_1 < ((rec_ x0_0 x0_1 x0_2 x0_3).length : Int) - 2 ∧ x1_2 ≠ 0) → Ev (fun k => brokerlaw31_RecordTorn.j3 k (rec_ x0_0 x0_1 x0_2 x0_3) b x1_0 x1_1 x1_2) true := by
      intro b hbt
      refine Ev.step (fun k => by simp only [brokerlaw31_RecordTorn.j3]; rfl) ?_
      cases b with
      | false => exact Ev.neg (by simp) (Ev.bind awake31 (Ev.now _))
      | true =>
        obtain ⟨t1, t2, t3⟩ := hbt rfl
        refine Ev.pos rfl (Ev.get rfl (Ev.pos (by simp; omega) (Ev.get rfl ?_)))
        rw [List.nil_append]
        have hl := wrapF_len (pld x0_0 x0_1 x0_2 x0_3)
        rw [wrap64_in (n := ((rec_ x0_0 x0_1 x0_2 x0_3).length : Int) - 1) (by omega) (by omega), wrap64_in (n := ((rec_ x0_0 x0_1 x0_2 x0_3).length : Int) - 1 - x1_1) (by omega) (by omega)]
        refine Ev.bind (head31_ev (pld x0_0 x0_1 x0_2 x0_3) (by omega)) ?_
        by_cases hh : ((rec_ x0_0 x0_1 x0_2 x0_3).length : Int) - 1 - x1_1 < ((enc (code ((pld x0_0 x0_1 x0_2 x0_3).length : Int))).length : Int)
        · exact Ev.pos hh (Ev.bind awake31 (Ev.now _))
        · refine Ev.neg hh ?_
          obtain ⟨i, hi⟩ := Int.eq_ofNat_of_zero_le (by omega : 0 ≤ ((rec_ x0_0 x0_1 x0_2 x0_3).length : Int) - 1 - x1_1)
          rw [hi, Int.toNat_natCast]
          have hil : i < (rec_ x0_0 x0_1 x0_2 x0_3).length := by omega
          have hx := rd_byt hwb hil
          obtain ⟨a, ha⟩ := Int.eq_ofNat_of_zero_le hx.1
          obtain ⟨c, hcc⟩ := Int.eq_ofNat_of_zero_le u0
          have hget : (rec_ x0_0 x0_1 x0_2 x0_3)[i] = (a : Int) := by rw [← ha]; simp [rd, List.getD_eq_getElem?_getD, List.getElem?_eq_getElem hil]
          have hx8 : Go.bits .xor .u8 (rd (rec_ x0_0 x0_1 x0_2 x0_3) (i : Int)) x1_2 = ((a ^^^ c : Nat) : Int) := by rw [ha, hcc, bits_xor_nat .u8 8 (by decide) wraps_u8 a c (by omega) (by omega)]
          have hlt : a ^^^ c < 256 := Nat.xor_lt_two_pow (n := 8) (by omega) (by omega)
          have hne := xor_ne (a := a) (b := c) (by omega)
          rw [hx8]
          have hd := rNext_damaged (pld x0_0 x0_1 x0_2 x0_3) (pld_byt _ _ _ _) (by omega) i (by omega) hil ((a ^^^ c : Nat) : Int) (by omega) (by omega) (by show _ ≠ (rec_ x0_0 x0_1 x0_2 x0_3)[i]; rw [hget]; omega) []
          rw [List.append_nil] at hd
          have hsb : Byt ((rec_ x0_0 x0_1 x0_2 x0_3).set i ((a ^^^ c : Nat) : Int)) := by
            intro z hz
            rcases List.mem_or_eq_of_mem_set hz with hz | rfl
            · exact hwb z hz
            · omega
          refine Ev.pos (by omega) (Ev.pos (by omega) (Ev.bind (record_Decode_ev _ hsb (by rw [List.length_set]; omega) 0) ?_))
          have hd2 : rNext ((rec_ x0_0 x0_1 x0_2 x0_3).set i ((a ^^^ c : Nat) : Int)) 0 = ([], 0, 4) := hd
          rw [rDec_err (by rw [hd2]; decide), hd2]
          exact Ev.pos rfl (Ev.bind awake31 (Ev.now _))
    have mid : Ev (fun k => brokerlaw31_RecordTorn.j2 k (rec_ x0_0 x0_1 x0_2 x0_3) x1_0 x1_1 x1_2) true := by
      refine Ev.step (fun k => by simp only [brokerlaw31_RecordTorn.j2]; rfl) ?_
      rw [wrap64_in (n := ((rec_ x0_0 x0_1 x0_2 x0_3).length : Int) - 2) (by omega) (by omega)]
      by_cases t1 : x1_1 ≥ 0
      · refine Ev.pos t1 ?_
        by_cases t2 : x1_1 < ((rec_ x0_0 x0_1 x0_2 x0_3).length : Int) - 2
        · exact Ev.pos t2 (last _ (fun h => ⟨t1, t2, by simpa using h⟩))
        · exact Ev.neg t2 (last _ (fun h => absurd h (by simp)))
      · exact Ev.neg t1 (last _ (fun h => absurd h (by simp)))
    have first : ∀ b : Bool, (b = true → 0 ≤ x1_0 ∧ x1_0 < ((rec_ x0_0 x0_1 x0_2 x0_3).length : Int)) → Ev (fun k => brokerlaw31_RecordTorn.j1 k (rec_ x0_0 x0_1 x0_2 x0_3) b x1_0 x1_1 x1_2) true := by
      intro b hbt
      refine Ev.step (fun k => by simp only [brokerlaw31_RecordTorn.j1]; rfl) ?_
      cases b with
      | false => exact Ev.neg (by simp) mid
      | true =>
        obtain ⟨t1, t2⟩ := hbt rfl
        refine Ev.pos rfl (Ev.pos t1 (Ev.pos (by omega) (Ev.bind (record_Decode_ev _ (hwb.take _) (by simp; omega) 0) ?_)))
        have ht := rNext_torn [] (pld x0_0 x0_1 x0_2 x0_3) x1_0.toNat (by omega) (by show _ < (rec_ x0_0 x0_1 x0_2 x0_3).length; omega)
        have ht2 : rNext ((rec_ x0_0 x0_1 x0_2 x0_3).take x1_0.toNat) 0 = ([], 0, 3) := ht
        rw [rDec_err (by rw [ht2]; decide), ht2]
        exact Ev.pos rfl mid
    by_cases t1 : x1_0 ≥ 0
    · exact Ev.pos t1 (first _ (fun h => ⟨t1, by simpa using h⟩))
    · exact Ev.neg t1 (first _ (fun h => absurd h (by simp)))
  · exact Ev.neg hc (Ev.bind awake31 (Ev.now _))
end Go.Proofs.Ytkkelbakadbbhaa.Pure
