/- The law SegmentTorn: of torn bytes the whole records are recovered, and no more. -/
import Derived.Test.YtkkelbakadbbhaaPI
import Derived.Test.YtkkelbakadbbhaaLSegmentRecovers
set_option linter.unusedVariables false
set_option linter.unusedSimpArgs false
namespace Go.Proofs.Ytkkelbakadbbhaa.EVT
open Go Go.EV

theorem rv_at (a1 : List Rec) (i : Nat) (h : i < a1.length) : (a1.map Prod.snd)[i]'(by simpa using h) = (a1.getD i (0, 0, [], [])).2 := by
  rw [List.getD_eq_getElem?_getD, List.getElem?_eq_getElem h]; simp
theorem of_loop (a1 : List Rec) (a0 : Int) (z : Int × Int × List UInt8) (h0 : 0 ≤ a0) (h1 : a0 ≤ 1099511627776) (hl : a1.length ≤ 9223372036854775807) :
    ∀ (d i k : Nat), i + d = a1.length → okL a0 ((a1.map Prod.snd).take i) → (segB a0 ((a1.map Prod.snd).take i)).length ≤ 65536 → d < k →
    ∃ o, loopN st62_0 k ((a1, (i : Int)), ((a0, a0 + (i : Int), segB a0 ((a1.map Prod.snd).take i)), z)) = some o ∧
      ((∃ e s, e ≠ 0 ∧ o = .inr (s, e)) ∨ (okL a0 (a1.map Prod.snd) ∧ (segB a0 (a1.map Prod.snd)).length ≤ 65536 ∧ o = .inl ((), ((a0, a0 + (a1.length : Int), segB a0 (a1.map Prod.snd)), z)))) := by
  intro d
  induction d with
  | zero =>
    intro i k hi hk hb hd
    have hall : (a1.map Prod.snd).take i = a1.map Prod.snd := List.take_of_length_le (by simp; omega)
    rw [hall] at hk hb ⊢
    cases k with
    | zero => omega
    | succ k =>
      refine ⟨_, ?_, .inr ⟨hk, hb, rfl⟩⟩
      rw [loopN_s]; generalize loopN st62_0 k = L at *; dsimp only [st62_0]
      rw [cf (by (rw [Bool.eq_false_iff]; simp only [ne_eq, Bool.and_eq_true, Bool.or_eq_true, decide_eq_true_eq, beq_iff_eq, bne_iff_ne, Bool.not_eq_true', decide_eq_false_iff_not, and_true, true_and]; omega)), show i = a1.length from by omega]
  | succ d ih =>
    intro i k hi hk hb hd
    cases k with
    | zero => omega
    | succ k =>
      have ih' := fun i a b c => ih i k a b c (by omega)
      rw [loopN_s]; generalize loopN st62_0 k = LL at ih' ⊢; dsimp only [st62_0]
      have hlt : i < a1.length := by omega
      have hat := rv_at a1 i hlt
      have hseg := segB_len _ _ hk
      have hti : ((a1.map Prod.snd).take i).length = i := by simp; omega
      have htk : (a1.map Prod.snd).take (i + 1) = (a1.map Prod.snd).take i ++ [(a1.getD i (0, 0, [], [])).2] := by rw [← hat, List.take_append_getElem]
      rw [ct (by (simp only [ne_eq, Bool.and_eq_true, Bool.or_eq_true, decide_eq_true_eq, beq_iff_eq, bne_iff_ne, Bool.not_eq_true', decide_eq_false_iff_not, and_true, true_and]; omega)), ct (by (simp only [ne_eq, Bool.and_eq_true, Bool.or_eq_true, decide_eq_true_eq, beq_iff_eq, bne_iff_ne, Bool.not_eq_true', decide_eq_false_iff_not, and_true, true_and]; omega)), ct (by (simp only [ne_eq, Bool.and_eq_true, Bool.or_eq_true, decide_eq_true_eq, beq_iff_eq, bne_iff_ne, Bool.not_eq_true', decide_eq_false_iff_not, and_true, true_and]; omega)), ct (by (simp only [ne_eq, Bool.and_eq_true, Bool.or_eq_true, decide_eq_true_eq, beq_iff_eq, bne_iff_ne, Bool.not_eq_true', decide_eq_false_iff_not, and_true, true_and]; omega)), Int.toNat_natCast]
      generalize (a1.getD i (0, 0, [], [])).2 = x at *
      obtain ⟨n, s, v⟩ := x
      dsimp only
      rw [ref_Append_eq _ _ _ _ _ _ hb]
      simp only [Option.bind_some]
      unfold sApp
      by_cases hc : chk (a0 + (i : Int)) n s v = 0
      · rw [if_pos hc]
        by_cases hw : ((segB a0 ((a1.map Prod.snd).take i)).length : Int) + ((rec_ (a0 + (i : Int)) n s v).length : Int) > 65536
        · rw [if_pos hw]; dsimp only
          rw [ct (b := (6 : Int) != 0) rfl]
          exact ⟨_, rfl, .inl ⟨6, _, by decide, rfl⟩⟩
        · rw [if_neg hw]; dsimp only
          rw [cf (b := (0 : Int) != 0) rfl, i64w (by omega) (by omega)]
          have hk2 : okL a0 ((a1.map Prod.snd).take (i + 1)) := by
            rw [htk, okL_app, hti]; exact ⟨hk, hc, trivial⟩
          have hb2 : segB a0 ((a1.map Prod.snd).take (i + 1)) = segB a0 ((a1.map Prod.snd).take i) ++ rec_ (a0 + (i : Int)) n s v := by
            rw [htk, segB_app, hti]; simp [segB]
          have := ih' (i + 1) (by omega) hk2 (by rw [hb2, List.length_append]; omega)
          rw [hb2, show a0 + ((i + 1 : Nat) : Int) = a0 + (i : Int) + 1 from by omega, show ((i + 1 : Nat) : Int) = (i : Int) + 1 from by omega] at this
          exact this
      · rw [if_neg hc]; dsimp only
        rw [ct (by (simp only [ne_eq, Bool.and_eq_true, Bool.or_eq_true, decide_eq_true_eq, beq_iff_eq, bne_iff_ne, Bool.not_eq_true', decide_eq_false_iff_not, and_true, true_and]; omega))]
        exact ⟨_, rfl, .inl ⟨_, _, hc, rfl⟩⟩
theorem Of_eq (a1 : List Rec) (a0 : Int) (h0 : 0 ≤ a0) (h1 : a0 ≤ 1099511627776) (hl : a1.length ≤ 9223372036854775807) :
    ∃ s e, g62 a0 a1 = some (s, e) ∧ (e ≠ 0 ∨ (e = 0 ∧ okL a0 (a1.map Prod.snd) ∧ (segB a0 (a1.map Prod.snd)).length ≤ 65536 ∧ s = (a0, a0 + (a1.length : Int), segB a0 (a1.map Prod.snd)))) := by
  obtain ⟨o, k1, k2⟩ := of_loop a1 a0 (0, 0, []) h0 h1 hl a1.length 0 fuel (by omega) trivial (by simp [segB]) (by rw [fuel_eq]; omega)
  have e0 : g52 a0 = some (a0, a0, []) := rfl
  unfold g62 h62_0
  rw [e0]
  simp only [Option.bind_some]
  simp only [List.take_zero, segB, Int.natCast_zero, Int.add_zero] at k1
  rw [k1]
  simp only [Option.bind_some]
  rcases k2 with ⟨e, s, he, rfl⟩ | ⟨q1, q2, rfl⟩
  · exact ⟨_, _, rfl, .inl he⟩
  · exact ⟨_, _, rfl, .inr ⟨rfl, q1, q2, rfl⟩⟩
theorem few_loop (a : List Rec) (hl : a.length ≤ 16) : ∀ (d i k : Nat), i + d = a.length → d < k → ∃ o, loopN st61_0 k ((a, (i : Int)), ()) = some o := by
  intro d
  induction d with
  | zero =>
    intro i k hi hk
    cases k with
    | zero => omega
    | succ k =>
      rw [loopN_s]; generalize loopN st61_0 k = L at *; dsimp only [st61_0]
      rw [cf (by (rw [Bool.eq_false_iff]; simp only [ne_eq, Bool.and_eq_true, Bool.or_eq_true, decide_eq_true_eq, beq_iff_eq, bne_iff_ne, Bool.not_eq_true', decide_eq_false_iff_not, and_true, true_and]; omega))]; exact ⟨_, rfl⟩
  | succ d ih =>
    intro i k hi hk
    cases k with
    | zero => omega
    | succ k =>
      have ih' := ih (i + 1) k (by omega) (by omega)
      rw [loopN_s]; generalize loopN st61_0 k = L at ih' ⊢; dsimp only [st61_0]
      rw [ct (by (simp only [ne_eq, Bool.and_eq_true, Bool.or_eq_true, decide_eq_true_eq, beq_iff_eq, bne_iff_ne, Bool.not_eq_true', decide_eq_false_iff_not, and_true, true_and]; omega)), ct (by (simp only [ne_eq, Bool.and_eq_true, Bool.or_eq_true, decide_eq_true_eq, beq_iff_eq, bne_iff_ne, Bool.not_eq_true', decide_eq_false_iff_not, and_true, true_and]; omega)), i64w (by omega) (by omega)]
      generalize (a.getD (Int.toNat (i : Int)) (0, 0, [], [])).2.2 = x
      by_cases h1 : (x.1.length : Int) > 100
      · rw [ct (by (simp only [ne_eq, Bool.and_eq_true, Bool.or_eq_true, decide_eq_true_eq, beq_iff_eq, bne_iff_ne, Bool.not_eq_true', decide_eq_false_iff_not, and_true, true_and]; omega))]; exact ⟨_, rfl⟩
      · rw [cf (by (rw [Bool.eq_false_iff]; simp only [ne_eq, Bool.and_eq_true, Bool.or_eq_true, decide_eq_true_eq, beq_iff_eq, bne_iff_ne, Bool.not_eq_true', decide_eq_false_iff_not, and_true, true_and]; omega)), ct (by (simp only [ne_eq, Bool.and_eq_true, Bool.or_eq_true, decide_eq_true_eq, beq_iff_eq, bne_iff_ne, Bool.not_eq_true', decide_eq_false_iff_not, and_true, true_and]; omega))]
        by_cases h2 : (x.2.length : Int) > 200
        · rw [ct (by (simp only [ne_eq, Bool.and_eq_true, Bool.or_eq_true, decide_eq_true_eq, beq_iff_eq, bne_iff_ne, Bool.not_eq_true', decide_eq_false_iff_not, and_true, true_and]; omega))]; exact ⟨_, rfl⟩
        · rw [cf (by (rw [Bool.eq_false_iff]; simp only [ne_eq, Bool.and_eq_true, Bool.or_eq_true, decide_eq_true_eq, beq_iff_eq, bne_iff_ne, Bool.not_eq_true', decide_eq_false_iff_not, and_true, true_and]; omega))]; exact ih'
theorem few_eq (a : List Rec) : ∃ b, g61 a = some b ∧ (b = true → a.length ≤ 16) := by
  unfold g61
  by_cases h : (a.length : Int) > 16
  · rw [ct (by (simp only [ne_eq, Bool.and_eq_true, Bool.or_eq_true, decide_eq_true_eq, beq_iff_eq, bne_iff_ne, Bool.not_eq_true', decide_eq_false_iff_not, and_true, true_and]; omega))]; exact ⟨false, rfl, fun h => by cases h⟩
  · rw [cf (by (rw [Bool.eq_false_iff]; simp only [ne_eq, Bool.and_eq_true, Bool.or_eq_true, decide_eq_true_eq, beq_iff_eq, bne_iff_ne, Bool.not_eq_true', decide_eq_false_iff_not, and_true, true_and]; omega))]
    obtain ⟨o, k⟩ := few_loop a (by omega) a.length 0 fuel (by omega) (by rw [fuel_eq]; omega)
    unfold h61_0
    have k' : loopN st61_0 fuel ((a, 0), ()) = some o := k
    rw [k']
    cases o with
    | inl x => exact ⟨true, rfl, fun _ => by omega⟩
    | inr x => exact ⟨x, rfl, fun _ => by omega⟩
theorem torn_loop (a1 : List Rec) (a0 w : Int) (m : Nat) (h0 : 0 ≤ a0) (h1 : a0 ≤ 1099511627760) (hl : a1.length ≤ 16) (hm : m ≤ 65536) (S S' : Int × Int × List UInt8) (hk : okL a0 (a1.map Prod.snd)) :
    ∀ (d i k q : Nat), i + d = a1.length → q ≤ m → d < k →
    loopN st19_0 k ((a0, a1, (m : Int), w, (i : Int), (q : Int), (i : Int)), (S, S')) = some (.inl ((a0, w, (i : Int) + ((fit (a0 + (i : Int)) ((a1.map Prod.snd).drop i) (m - q)).1 : Int), (q : Int) + ((fit (a0 + (i : Int)) ((a1.map Prod.snd).drop i) (m - q)).2 : Int)), (S, S'))) := by
  intro d
  induction d with
  | zero =>
    intro i k q hi hq hd
    cases k with
    | zero => omega
    | succ k =>
      rw [List.drop_of_length_le (by simp; omega)]
      rw [loopN_s]; generalize loopN st19_0 k = L at *; dsimp only [st19_0]
      rw [cf (by (rw [Bool.eq_false_iff]; simp only [ne_eq, Bool.and_eq_true, Bool.or_eq_true, decide_eq_true_eq, beq_iff_eq, bne_iff_ne, Bool.not_eq_true', decide_eq_false_iff_not, and_true, true_and]; omega))]; simp [fit]
  | succ d ih =>
    intro i k q hi hq hd
    cases k with
    | zero => omega
    | succ k =>
      have ih' := fun q a => ih (i + 1) k q (by omega) a (by omega)
      rw [loopN_s]; generalize loopN st19_0 k = LL at ih' ⊢; dsimp only [st19_0]
      have hlt : i < a1.length := by omega
      have hat := rv_at a1 i hlt
      have hok := okL_at (a1.map Prod.snd) a0 i (by simpa using hlt) hk
      have hdr : (a1.map Prod.snd).drop i = (a1.getD i (0, 0, [], [])).2 :: (a1.map Prod.snd).drop (i + 1) := by rw [List.drop_eq_getElem_cons (by simpa using hlt), hat]
      rw [hat] at hok
      rw [ct (by (simp only [ne_eq, Bool.and_eq_true, Bool.or_eq_true, decide_eq_true_eq, beq_iff_eq, bne_iff_ne, Bool.not_eq_true', decide_eq_false_iff_not, and_true, true_and]; omega)), ct (by (simp only [ne_eq, Bool.and_eq_true, Bool.or_eq_true, decide_eq_true_eq, beq_iff_eq, bne_iff_ne, Bool.not_eq_true', decide_eq_false_iff_not, and_true, true_and]; omega)), ct (by (simp only [ne_eq, Bool.and_eq_true, Bool.or_eq_true, decide_eq_true_eq, beq_iff_eq, bne_iff_ne, Bool.not_eq_true', decide_eq_false_iff_not, and_true, true_and]; omega)), ct (by (simp only [ne_eq, Bool.and_eq_true, Bool.or_eq_true, decide_eq_true_eq, beq_iff_eq, bne_iff_ne, Bool.not_eq_true', decide_eq_false_iff_not, and_true, true_and]; omega)), Int.toNat_natCast, hdr]
      generalize (a1.getD i (0, 0, [], [])).2 = x at *
      obtain ⟨n, s, v⟩ := x
      have hr := rec_len hok
      dsimp only at hok hr ⊢
      rw [i64w (n := a0 + (i : Int)) (by omega) (by omega), ref_Size_eq]
      simp only [Option.bind_some]
      have he : (rEnc (a0 + (i : Int)) n s v).1 = rec_ (a0 + (i : Int)) n s v := by unfold rEnc; rw [if_pos hok]
      rw [he, i64w (n := (q : Int) + _) (by omega) (by omega), i64w (n := (i : Int) + 1) (by omega) (by omega)]
      unfold fit
      by_cases hf : (rec_ (a0 + (i : Int)) n s v).length ≤ m - q
      · rw [cf (by (rw [Bool.eq_false_iff]; simp only [ne_eq, Bool.and_eq_true, Bool.or_eq_true, decide_eq_true_eq, beq_iff_eq, bne_iff_ne, Bool.not_eq_true', decide_eq_false_iff_not, and_true, true_and]; omega)), if_pos hf]
        have := ih' (q + (rec_ (a0 + (i : Int)) n s v).length) (by omega)
        rw [show a0 + ((i + 1 : Nat) : Int) = a0 + (i : Int) + 1 from by omega, show ((i + 1 : Nat) : Int) = (i : Int) + 1 from by omega, show m - (q + (rec_ (a0 + (i : Int)) n s v).length) = m - q - (rec_ (a0 + (i : Int)) n s v).length from by omega] at this
        rw [show ((q + (rec_ (a0 + (i : Int)) n s v).length : Nat) : Int) = (q : Int) + ((rec_ (a0 + (i : Int)) n s v).length : Int) from by omega] at this
        rw [this]
        simp only [Option.some.injEq, Sum.inl.injEq, Prod.mk.injEq, true_and, and_true]
        constructor <;> omega
      · rw [ct (by (simp only [ne_eq, Bool.and_eq_true, Bool.or_eq_true, decide_eq_true_eq, beq_iff_eq, bne_iff_ne, Bool.not_eq_true', decide_eq_false_iff_not, and_true, true_and]; omega)), if_neg hf]; simp
theorem law_torn (a0 : Int) (a1 : List Rec) (a2 : Int) (hl : a1.length ≤ 9223372036854775807) : g19 a0 a1 a2 = some true := by
  unfold g19
  rw [awake32]
  simp only [Option.bind_some]
  by_cases h0 : a0 < 0
  · rw [ct (by (simp only [ne_eq, Bool.and_eq_true, Bool.or_eq_true, decide_eq_true_eq, beq_iff_eq, bne_iff_ne, Bool.not_eq_true', decide_eq_false_iff_not, and_true, true_and]; omega))]
  by_cases h1 : a0 > 1099511627760
  · rw [cf (by (rw [Bool.eq_false_iff]; simp only [ne_eq, Bool.and_eq_true, Bool.or_eq_true, decide_eq_true_eq, beq_iff_eq, bne_iff_ne, Bool.not_eq_true', decide_eq_false_iff_not, and_true, true_and]; omega)), ct (by (simp only [ne_eq, Bool.and_eq_true, Bool.or_eq_true, decide_eq_true_eq, beq_iff_eq, bne_iff_ne, Bool.not_eq_true', decide_eq_false_iff_not, and_true, true_and]; omega))]
  obtain ⟨f, hf1, hf2⟩ := few_eq a1
  rw [cf (by (rw [Bool.eq_false_iff]; simp only [ne_eq, Bool.and_eq_true, Bool.or_eq_true, decide_eq_true_eq, beq_iff_eq, bne_iff_ne, Bool.not_eq_true', decide_eq_false_iff_not, and_true, true_and]; omega)), cf (by (rw [Bool.eq_false_iff]; simp only [ne_eq, Bool.and_eq_true, Bool.or_eq_true, decide_eq_true_eq, beq_iff_eq, bne_iff_ne, Bool.not_eq_true', decide_eq_false_iff_not, and_true, true_and]; omega)), hf1]
  simp only [Option.bind_some]
  cases f with
  | false => rfl
  | true =>
    have hn := hf2 rfl
    rw [cf (b := !true) rfl]
    by_cases h2 : a2 < 0
    · rw [ct (by (simp only [ne_eq, Bool.and_eq_true, Bool.or_eq_true, decide_eq_true_eq, beq_iff_eq, bne_iff_ne, Bool.not_eq_true', decide_eq_false_iff_not, and_true, true_and]; omega))]
    obtain ⟨S, e, ho1, ho2⟩ := Of_eq a1 a0 (by omega) (by omega) hl
    rw [cf (by (rw [Bool.eq_false_iff]; simp only [ne_eq, Bool.and_eq_true, Bool.or_eq_true, decide_eq_true_eq, beq_iff_eq, bne_iff_ne, Bool.not_eq_true', decide_eq_false_iff_not, and_true, true_and]; omega)), ho1]
    simp only [Option.bind_some]
    rcases ho2 with he | ⟨rfl, hk, hb, rfl⟩
    · rw [ct (by (simp only [ne_eq, Bool.and_eq_true, Bool.or_eq_true, decide_eq_true_eq, beq_iff_eq, bne_iff_ne, Bool.not_eq_true', decide_eq_false_iff_not, and_true, true_and]; omega))]
    rw [cf (by rfl)]
    dsimp only
    by_cases h3 : a2 > ((segB a0 (a1.map Prod.snd)).length : Int)
    · rw [ct (by (simp only [ne_eq, Bool.and_eq_true, Bool.or_eq_true, decide_eq_true_eq, beq_iff_eq, bne_iff_ne, Bool.not_eq_true', decide_eq_false_iff_not, and_true, true_and]; omega))]
    obtain ⟨m, rfl⟩ := Int.eq_ofNat_of_zero_le (by omega : 0 ≤ a2)
    rw [cf (by (rw [Bool.eq_false_iff]; simp only [ne_eq, Bool.and_eq_true, Bool.or_eq_true, decide_eq_true_eq, beq_iff_eq, bne_iff_ne, Bool.not_eq_true', decide_eq_false_iff_not, and_true, true_and]; omega)), ct (by (simp only [ne_eq, Bool.and_eq_true, Bool.or_eq_true, decide_eq_true_eq, beq_iff_eq, bne_iff_ne, Bool.not_eq_true', decide_eq_false_iff_not, and_true, true_and]; omega)), Int.toNat_natCast, List.drop_zero]
    have htl : ((segB a0 (a1.map Prod.snd)).take m).length = m := by rw [List.length_take]; omega
    rw [Recover_eq _ (by omega) a0]
    simp only [Option.bind_some]
    have hrc := rcv_torn (a1.map Prod.snd) a0 m (m + 1) [] hk (by simp; omega) (by omega)
    rw [List.nil_append] at hrc
    obtain ⟨f1, f2, f3⟩ := fit_le (a1.map Prod.snd) a0 m
    have f4 := fit_take (a1.map Prod.snd) a0 m
    have hrv : rcvd ((segB a0 (a1.map Prod.snd)).take m) a0 = ((a0, a0 + ((fit a0 (a1.map Prod.snd) m).1 : Int), segB a0 ((a1.map Prod.snd).take (fit a0 (a1.map Prod.snd) m).1)), ((fit a0 (a1.map Prod.snd) m).2 : Int)) := by
      unfold rcvd
      rw [htl]
      have hrc' : rcv ((segB a0 (a1.map Prod.snd)).take m) (m + 1) a0 0 = _ := hrc
      rw [hrc']
      dsimp only [List.length_nil]
      rw [show (((0 : Nat) : Int) + ((fit a0 (a1.map Prod.snd) m).2 : Int)) = ((fit a0 (a1.map Prod.snd) m).2 : Int) from by omega, Int.toNat_natCast, List.take_take, Nat.min_eq_left f2, f4]
    rw [hrv]
    dsimp only
    have hlp := torn_loop a1 a0 ((fit a0 (a1.map Prod.snd) m).2 : Int) m (by omega) (by omega) hn (by omega) (a0, a0 + ((fit a0 (a1.map Prod.snd) m).1 : Int), segB a0 ((a1.map Prod.snd).take (fit a0 (a1.map Prod.snd) m).1)) (a0, a0 + (a1.length : Int), segB a0 (a1.map Prod.snd)) hk a1.length 0 fuel 0 (by omega) (by omega) (by rw [fuel_eq]; omega)
    simp only [Int.natCast_zero, Int.add_zero, Int.zero_add, List.drop_zero, Nat.sub_zero] at hlp
    unfold h19_0
    simp only [Int.ofNat_eq_natCast] at *
    rw [hlp]
    simp only [Option.bind_some]
    have hc : ((a1.map Prod.snd).take (fit a0 (a1.map Prod.snd) m).1).length = (fit a0 (a1.map Prod.snd) m).1 := by rw [List.length_take]; omega
    have hkk : okL a0 ((a1.map Prod.snd).take (fit a0 (a1.map Prod.snd) m).1) := by
      have := (okL_app ((a1.map Prod.snd).take (fit a0 (a1.map Prod.snd) m).1) ((a1.map Prod.snd).drop (fit a0 (a1.map Prod.snd) m).1) a0).1 (by rw [List.take_append_drop]; exact hk)
      exact this.1
    have hml : (a1.map Prod.snd).length = a1.length := by simp
    have hck := sChk_of (base := a0) (by omega) (by omega) hkk (by rw [← f3]; omega)
    rw [hc] at hck
    rw [ct (by simp), ct (by simp), i64w (by omega) (by omega), ct (by simp), ct (by (simp only [ne_eq, Bool.and_eq_true, Bool.or_eq_true, decide_eq_true_eq, beq_iff_eq, bne_iff_ne, Bool.not_eq_true', decide_eq_false_iff_not, and_true, true_and]; omega)), Int.toNat_natCast, List.drop_zero, f4, ct (by simp), seg_Check_eq _ _ _ (by constructor <;> omega), hck]
    rfl
theorem SegmentTorn {a0 : Ty.den (.i .i64)} {a1 : Ty.den (.sl (.st (.pr (.i .i64) (.pr (.i .i64) (.pr .s .s)))))} {a2 : Ty.den (.i .i64)} (h0 : Bd _ a0) (h1 : Bd _ a1) (h2 : Bd _ a2) : i19.G (a0, a1, a2) = some true := law_torn a0 a1 a2 h1.1
end Go.Proofs.Ytkkelbakadbbhaa.EVT
