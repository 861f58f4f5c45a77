/- What the printed functions of package index, and of its reference, compute: finding. -/
import Derived.Test.YtkkelbakadbbhaaQB
import Derived.Test.YtkkelbakadbbhaaUI
set_option linter.unusedVariables false
set_option linter.unusedSimpArgs false
namespace Go.Proofs.Ytkkelbakadbbhaa.EVT
open Go Go.EV

theorem awake33 : g33 = some true := by kernel_rfl
def fndM (l : List (Int × Int)) (f : Int) : Nat → (Int × Int) × Bool
  | 0 => ((0, 0), false)
  | i + 1 => if (l.getD i (0, 0)).1 ≤ f then (l.getD i (0, 0), true) else fndM l f i
theorem find_loop (l : List (Int × Int)) (f : Int) (z : Int × Int) (hl : l.length ≤ 9223372036854775807) : ∀ (i k : Nat), i ≤ l.length → i < k →
    ∃ o, loopN st40_0 k ((l, f, (i : Int) - 1), z) = some o ∧ (match o with | .inl x => some ((0, 0), false) | .inr x => some x) = some (fndM l f i) := by
  intro i
  induction i with
  | zero =>
    intro k hi hk
    cases k with
    | zero => omega
    | succ k =>
      rw [loopN_s]; generalize loopN st40_0 k = L at *; dsimp only [st40_0]
      rw [cf (by (rw [Bool.eq_false_iff]; simp only [ne_eq, Bool.and_eq_true, Bool.or_eq_true, decide_eq_true_eq, beq_iff_eq, bne_iff_ne, Bool.not_eq_true', decide_eq_false_iff_not, and_true, true_and]; omega))]; exact ⟨_, rfl, rfl⟩
  | succ i ih =>
    intro k hi hk
    cases k with
    | zero => omega
    | succ k =>
      have ih' := ih k (by omega) (by omega)
      rw [loopN_s]; generalize loopN st40_0 k = L at ih' ⊢; dsimp only [st40_0]
      rw [show ((i + 1 : Nat) : Int) - 1 = (i : Int) from by omega, ct (by (simp only [ne_eq, Bool.and_eq_true, Bool.or_eq_true, decide_eq_true_eq, beq_iff_eq, bne_iff_ne, Bool.not_eq_true', decide_eq_false_iff_not, and_true, true_and]; omega)), ct (by (simp only [ne_eq, Bool.and_eq_true, Bool.or_eq_true, decide_eq_true_eq, beq_iff_eq, bne_iff_ne, Bool.not_eq_true', decide_eq_false_iff_not, and_true, true_and]; omega)), Int.toNat_natCast]
      unfold fndM
      by_cases h : (l.getD i (0, 0)).1 ≤ f
      · rw [ct (by (simp only [ne_eq, Bool.and_eq_true, Bool.or_eq_true, decide_eq_true_eq, beq_iff_eq, bne_iff_ne, Bool.not_eq_true', decide_eq_false_iff_not, and_true, true_and]; omega)), ct (by (simp only [ne_eq, Bool.and_eq_true, Bool.or_eq_true, decide_eq_true_eq, beq_iff_eq, bne_iff_ne, Bool.not_eq_true', decide_eq_false_iff_not, and_true, true_and]; omega)), if_pos h]; exact ⟨_, rfl, rfl⟩
      · rw [cf (by (rw [Bool.eq_false_iff]; simp only [ne_eq, Bool.and_eq_true, Bool.or_eq_true, decide_eq_true_eq, beq_iff_eq, bne_iff_ne, Bool.not_eq_true', decide_eq_false_iff_not, and_true, true_and]; omega)), if_neg h, i64w (by omega) (by omega)]; exact ih'
theorem Find_eq (l : List (Int × Int)) (f : Int) (hl : l.length ≤ 9223372036854775807) : g40 l f = some (fndM l f l.length) := by
  obtain ⟨o, k1, k2⟩ := find_loop l f (0, 0) hl l.length fuel (by omega) (by rw [fuel_eq]; omega)
  unfold g40 h40_0
  rw [i64w (by omega) (by omega), k1]
  simp only [Option.bind_some]
  exact k2
theorem ref_Find_eq (l : List (Int × Int)) (f : Int) (hl : l.length ≤ 9223372036854775807) : g41 l f = some (fndM l f l.length) := Find_eq l f hl
/-! ### rising marks -/
def risB (l : List (Int × Int)) : Nat → Nat → Bool
  | 0, _ => true
  | d + 1, i => if i < l.length then (if (l.getD i (0, 0)).1 ≤ (l.getD (i - 1) (0, 0)).1 then false else risB l d (i + 1)) else true
theorem rising_loop (l : List (Int × Int)) (hl : l.length ≤ 9223372036854775806) : ∀ (d i k : Nat), 1 ≤ i → l.length + 1 ≤ i + d → i ≤ l.length + 1 → d < k →
    ∃ o, loopN st39_0 k ((l, (i : Int)), ()) = some o ∧ (match o with | .inl x => some true | .inr x => some x) = some (risB l d i) := by
  intro d
  induction d with
  | zero =>
    intro i k h1 hi h2 hk
    cases k with
    | zero => omega
    | succ k =>
      rw [loopN_s]; generalize loopN st39_0 k = L at *; dsimp only [st39_0]
      rw [cf (by (rw [Bool.eq_false_iff]; simp only [ne_eq, Bool.and_eq_true, Bool.or_eq_true, decide_eq_true_eq, beq_iff_eq, bne_iff_ne, Bool.not_eq_true', decide_eq_false_iff_not, and_true, true_and]; omega))]; exact ⟨_, rfl, rfl⟩
  | succ d ih =>
    intro i k h1 hi h2 hk
    cases k with
    | zero => omega
    | succ k =>
      have ih' := fun a b c => ih (i + 1) k a b c (by omega)
      rw [loopN_s]; generalize loopN st39_0 k = L at ih' ⊢; dsimp only [st39_0]
      unfold risB
      by_cases hp : i < l.length
      · rw [ct (by (simp only [ne_eq, Bool.and_eq_true, Bool.or_eq_true, decide_eq_true_eq, beq_iff_eq, bne_iff_ne, Bool.not_eq_true', decide_eq_false_iff_not, and_true, true_and]; omega)), ct (by (simp only [ne_eq, Bool.and_eq_true, Bool.or_eq_true, decide_eq_true_eq, beq_iff_eq, bne_iff_ne, Bool.not_eq_true', decide_eq_false_iff_not, and_true, true_and]; omega)), i64w (n := (i : Int) - 1) (by omega) (by omega), i64w (by omega) (by omega), ct (by (simp only [ne_eq, Bool.and_eq_true, Bool.or_eq_true, decide_eq_true_eq, beq_iff_eq, bne_iff_ne, Bool.not_eq_true', decide_eq_false_iff_not, and_true, true_and]; omega)), if_pos hp, show ((i : Int) - 1).toNat = i - 1 from by omega, Int.toNat_natCast]
        by_cases hc : (l.getD i (0, 0)).1 ≤ (l.getD (i - 1) (0, 0)).1
        · rw [ct (by (simp only [ne_eq, Bool.and_eq_true, Bool.or_eq_true, decide_eq_true_eq, beq_iff_eq, bne_iff_ne, Bool.not_eq_true', decide_eq_false_iff_not, and_true, true_and]; omega)), if_pos hc]; exact ⟨_, rfl, rfl⟩
        · rw [cf (by (rw [Bool.eq_false_iff]; simp only [ne_eq, Bool.and_eq_true, Bool.or_eq_true, decide_eq_true_eq, beq_iff_eq, bne_iff_ne, Bool.not_eq_true', decide_eq_false_iff_not, and_true, true_and]; omega)), if_neg hc]; exact ih' (by omega) (by omega) (by omega)
      · rw [cf (by (rw [Bool.eq_false_iff]; simp only [ne_eq, Bool.and_eq_true, Bool.or_eq_true, decide_eq_true_eq, beq_iff_eq, bne_iff_ne, Bool.not_eq_true', decide_eq_false_iff_not, and_true, true_and]; omega)), if_neg hp]; exact ⟨_, rfl, rfl⟩
theorem Rising_eq (l : List (Int × Int)) (hl : l.length ≤ 9223372036854775806) : g39 l = some (risB l l.length 1) := by
  obtain ⟨o, k1, k2⟩ := rising_loop l hl l.length 1 fuel (by omega) (by omega) (by omega) (by rw [fuel_eq]; omega)
  unfold g39 h39_0
  have k1' : loopN st39_0 fuel ((l, 1), ()) = some o := k1
  rw [k1']
  simp only [Option.bind_some]
  exact k2
end Go.Proofs.Ytkkelbakadbbhaa.EVT
/- What the printed functions of package index, and of its reference, compute: marks of a segment. -/
set_option linter.unusedVariables false
set_option linter.unusedSimpArgs false
namespace Go.Proofs.Ytkkelbakadbbhaa.EVT
open Go Go.EV

abbrev Mark := Int × Int
/-- The position of the record with index i. -/
def posL (o : Int) (L : List RV) (i : Nat) : Nat := (segB o (L.take i)).length
def mrk (o : Int) (L : List RV) (i : Nat) : Mark := (o + (i : Int), (posL o L i : Int))
theorem posL_zero (o : Int) (L : List RV) : posL o L 0 = 0 := by simp [posL, segB]
theorem seg_split (o : Int) (L : List RV) (i : Nat) : segB o L = segB o (L.take i) ++ segB (o + ((L.take i).length : Nat)) (L.drop i) := by
  conv => lhs; rw [← List.take_append_drop i L]
  exact segB_app _ _ _
theorem posL_succ (o : Int) (L : List RV) (i : Nat) (h : i < L.length) : posL o L (i + 1) = posL o L i + (rec_ (o + (i : Int)) (L[i]).1 (L[i]).2.1 (L[i]).2.2).length := by
  unfold posL
  rw [List.take_succ_eq_append_getElem h, segB_app]
  simp [segB, Nat.min_eq_left (Nat.le_of_lt h)]
theorem posL_le (o : Int) (L : List RV) (i : Nat) : posL o L i ≤ (segB o L).length := by
  have := congrArg List.length (seg_split o L i)
  rw [List.length_append] at this
  unfold posL; omega
/-- At a record's position its record is read. -/
theorem seg_rd {b : List UInt8} {o : Int} {L : List RV} (hk : okL o L) (he : b = segB o L) (i : Nat) (h : i < L.length) :
    (posL o L i : Int) < (b.length : Int) ∧ rDec b (posL o L i : Int) = (o + (i : Int), (L[i]).1, (L[i]).2.1, (L[i]).2.2, (posL o L (i + 1) : Int), 0) := by
  have hd : L.drop i = L[i] :: L.drop (i + 1) := List.drop_eq_getElem_cons h
  have hs := seg_split o L i
  have hlen : (L.take i).length = i := by rw [List.length_take]; omega
  rw [hlen, hd] at hs
  have hk2 : okL (o + (i : Int)) (L[i] :: L.drop (i + 1)) := by
    have := (okL_app (L.take i) (L.drop i) o).1 (by rw [List.take_append_drop]; exact hk)
    rw [hlen, hd] at this; exact this.2
  have hp := posL_succ o L i h
  obtain ⟨⟨n, s, v⟩, hx⟩ : ∃ x, L[i] = x := ⟨_, rfl⟩
  rw [hx] at hs hk2 hp ⊢
  obtain ⟨g1, g2, g3⟩ := seg_head (b := b) (pre := segB o (L.take i)) hk2 (by rw [he, hs])
  refine ⟨g1, ?_⟩
  show rDec b ((segB o (L.take i)).length : Int) = _
  rw [g2, hp]
  simp [posL, List.length_append]
theorem pos_end {b : List UInt8} {o : Int} {L : List RV} (he : b = segB o L) (i : Nat) (h : L.length ≤ i) : ¬ (posL o L i : Int) < (b.length : Int) := by
  unfold posL; rw [List.take_of_length_le h, he]; omega
def allM (o : Int) (L : List RV) : List Mark := (List.range L.length).map (mrk o L)
theorem allM_len (o : Int) (L : List RV) : (allM o L).length = L.length := by simp [allM]
theorem allM_at (o : Int) (L : List RV) (i : Nat) (h : i < L.length) : (allM o L)[i]'(by rw [allM_len]; exact h) = mrk o L i := by simp [allM]
def bldM (e : Int) (o : Int) (L : List RV) (i : Nat) : List Mark := ((List.range i).filter (fun j : Nat => decide ((j : Int) % e = 0))).map (mrk o L)
theorem bldM_succ (e : Int) (o : Int) (L : List RV) (i : Nat) : bldM e o L (i + 1) = if (i : Int) % e = 0 then bldM e o L i ++ [mrk o L i] else bldM e o L i := by
  unfold bldM
  rw [List.range_succ, List.filter_append]
  by_cases h : (i : Int) % e = 0
  · rw [if_pos h]; simp [h]
  · rw [if_neg h]; simp [h]
theorem bldM_len (e : Int) (o : Int) (L : List RV) (i : Nat) : (bldM e o L i).length ≤ i := by
  unfold bldM
  rw [List.length_map]
  exact Nat.le_trans (List.length_filter_le _ _) (by simp)
theorem getD_at {α : Type} {l : List α} {j : Nat} (d : α) (h : j < l.length) : l.getD j d = l[j] := by simp [List.getD_eq_getElem?_getD, h]
/-! ### the records of a segment -/
theorem recs_loop {b : List UInt8} {o : Int} {L : List RV} (hk : okL o L) (he : b = segB o L) (hb : b.length ≤ 65536) (o' nx : Int) : ∀ (d j k : Nat) (acc : List Rec), j + d = L.length → acc.length + d ≤ 2147483647 → d < k →
    loopN st56_0 k ((posL o L j : Int), (acc, o', nx, b)) = some (.inl ((), acc ++ (recL o L).drop j)) := by
  intro d
  induction d with
  | zero =>
    intro j k acc hj ha hd
    cases k with
    | zero => omega
    | succ k =>
      have := pos_end he j (by omega)
      rw [loopN_s]; generalize loopN st56_0 k = LL at *; dsimp only [st56_0]
      rw [cf (by (rw [Bool.eq_false_iff]; simp only [ne_eq, Bool.and_eq_true, Bool.or_eq_true, decide_eq_true_eq, beq_iff_eq, bne_iff_ne, Bool.not_eq_true', decide_eq_false_iff_not, and_true, true_and]; omega)), List.drop_of_length_le (by rw [recL_len]; omega), List.append_nil]
  | succ d ih =>
    intro j k acc hj ha hd
    cases k with
    | zero => omega
    | succ k =>
      have ih' := fun acc a => ih (j + 1) k acc (by omega) a (by omega)
      obtain ⟨g1, g2⟩ := seg_rd hk he j (by omega)
      rw [loopN_s]; generalize loopN st56_0 k = LL at ih' ⊢; dsimp only [st56_0]
      rw [ct (by (simp only [ne_eq, Bool.and_eq_true, Bool.or_eq_true, decide_eq_true_eq, beq_iff_eq, bne_iff_ne, Bool.not_eq_true', decide_eq_false_iff_not, and_true, true_and]; omega)), ref_Decode_eq b (by omega), g2]
      simp only [Option.bind_some]
      have hdr : (recL o L).drop j = (o + (j : Int), (L[j]).1, (L[j]).2.1, (L[j]).2.2) :: (recL o L).drop (j + 1) := by
        rw [List.drop_eq_getElem_cons (by rw [recL_len]; omega), recL_at L o j (by omega)]
      rw [cf (b := (0 : Int) != 0) rfl, ct (by (simp only [ne_eq, Bool.and_eq_true, Bool.or_eq_true, decide_eq_true_eq, beq_iff_eq, bne_iff_ne, Bool.not_eq_true', decide_eq_false_iff_not, and_true, true_and]; omega)), ih' _ (by simp; omega), hdr]
      simp
theorem ref_Records_eq {b : List UInt8} {o : Int} {L : List RV} (hk : okL o L) (he : b = segB o L) (hb : b.length ≤ 65536) (o' nx : Int) : g56 o' nx b = some (recL o L) := by
  have hL := segB_len L o hk
  rw [← he] at hL
  have := recs_loop hk he hb o' nx L.length 0 fuel [] (by omega) (by simp; omega) (by rw [fuel_eq]; omega)
  rw [posL_zero] at this
  unfold g56 h56_0
  have this' : loopN st56_0 fuel (0, ([], o', nx, b)) = _ := this
  rw [this']
  simp
/-! ### all marks -/
theorem all_loop {o : Int} {L : List RV} (hk : okL o L) (hb : (segB o L).length ≤ 65536) : ∀ (d j k : Nat) (acc : List Mark), j + d = L.length → acc.length + d ≤ 2147483647 → d < k →
    loopN st77_0 k (((posL o L j : Int), recL o L, (j : Int)), acc) = some (.inl ((), acc ++ (allM o L).drop j)) := by
  have hL := segB_len L o hk
  intro d
  induction d with
  | zero =>
    intro j k acc hj ha hd
    cases k with
    | zero => omega
    | succ k =>
      have h1 := recL_len L o
      rw [loopN_s]; generalize loopN st77_0 k = LL at *; dsimp only [st77_0]
      rw [cf (by (rw [Bool.eq_false_iff]; simp only [ne_eq, Bool.and_eq_true, Bool.or_eq_true, decide_eq_true_eq, beq_iff_eq, bne_iff_ne, Bool.not_eq_true', decide_eq_false_iff_not, and_true, true_and]; omega)), List.drop_of_length_le (by rw [allM_len]; omega), List.append_nil]
  | succ d ih =>
    intro j k acc hj ha hd
    cases k with
    | zero => omega
    | succ k =>
      have h1 := recL_len L o
      have ih' := fun acc a => ih (j + 1) k acc (by omega) a (by omega)
      rw [loopN_s]; generalize loopN st77_0 k = LL at ih' ⊢; dsimp only [st77_0]
      have hat : (recL o L).getD j (0, 0, [], []) = (o + (j : Int), (L[j]).1, (L[j]).2.1, (L[j]).2.2) := by rw [getD_at _ (by rw [recL_len]; omega), recL_at L o j (by omega)]
      have hok := okL_at L o j (by omega) hk
      have hps := posL_succ o L j (by omega)
      have hpl := posL_le o L (j + 1)
      rw [ct (by (simp only [ne_eq, Bool.and_eq_true, Bool.or_eq_true, decide_eq_true_eq, beq_iff_eq, bne_iff_ne, Bool.not_eq_true', decide_eq_false_iff_not, and_true, true_and]; omega)), ct (by (simp only [ne_eq, Bool.and_eq_true, Bool.or_eq_true, decide_eq_true_eq, beq_iff_eq, bne_iff_ne, Bool.not_eq_true', decide_eq_false_iff_not, and_true, true_and]; omega)), ct (by (simp only [ne_eq, Bool.and_eq_true, Bool.or_eq_true, decide_eq_true_eq, beq_iff_eq, bne_iff_ne, Bool.not_eq_true', decide_eq_false_iff_not, and_true, true_and]; omega)), ct (by (simp only [ne_eq, Bool.and_eq_true, Bool.or_eq_true, decide_eq_true_eq, beq_iff_eq, bne_iff_ne, Bool.not_eq_true', decide_eq_false_iff_not, and_true, true_and]; omega)), Int.toNat_natCast, hat]
      dsimp only
      rw [ref_Size_eq]
      simp only [Option.bind_some]
      have he : (rEnc (o + (j : Int)) (L[j]).1 (L[j]).2.1 (L[j]).2.2).1 = rec_ (o + (j : Int)) (L[j]).1 (L[j]).2.1 (L[j]).2.2 := by unfold rEnc; rw [if_pos hok]
      have hdr : (allM o L).drop j = (o + (j : Int), (posL o L j : Int)) :: (allM o L).drop (j + 1) := by
        rw [List.drop_eq_getElem_cons (by rw [allM_len]; omega), allM_at o L j (by omega)]; rfl
      rw [he, i64w (n := (posL o L j : Int) + _) (by omega) (by omega), i64w (n := (j : Int) + 1) (by omega) (by omega), hdr]
      have := ih' (acc ++ [(o + (j : Int), (posL o L j : Int))]) (by simp; omega)
      rw [hps] at this
      rw [show (posL o L j : Int) + ((rec_ (o + (j : Int)) (L[j]).1 (L[j]).2.1 (L[j]).2.2).length : Int) = ((posL o L j + (rec_ (o + (j : Int)) (L[j]).1 (L[j]).2.1 (L[j]).2.2).length : Nat) : Int) from by omega, show (j : Int) + 1 = ((j + 1 : Nat) : Int) from by omega, this]
      simp
theorem All_eq {b : List UInt8} {o : Int} {L : List RV} (hk : okL o L) (he : b = segB o L) (hb : b.length ≤ 65536) (o' nx : Int) : g77 o' nx b = some (allM o L) := by
  have hL := segB_len L o hk
  have hb2 : (segB o L).length ≤ 65536 := by rw [← he]; exact hb
  have := all_loop hk hb2 L.length 0 fuel [] (by omega) (by simp; omega) (by rw [fuel_eq]; omega)
  rw [posL_zero] at this
  unfold g77 h77_0
  rw [ref_Records_eq hk he hb]
  simp only [Option.bind_some]
  have this' : loopN st77_0 fuel ((0, recL o L, 0), []) = _ := this
  rw [this']
  simp
/-! ### building -/
theorem build_loop {b : List UInt8} {o : Int} {L : List RV} (hk : okL o L) (he : b = segB o L) (hb : b.length ≤ 65536) (e nx : Int) (h1 : 1 ≤ e) : ∀ (d j k : Nat), j + d = L.length → d < k →
    loopN st35_0 k ((e, (posL o L j : Int)), (bldM e o L j, o, nx, b)) = some (.inl ((), bldM e o L L.length)) := by
  have hL := segB_len L o hk
  rw [← he] at hL
  intro d
  induction d with
  | zero =>
    intro j k hj hd
    cases k with
    | zero => omega
    | succ k =>
      have := pos_end he j (by omega)
      rw [loopN_s]; generalize loopN st35_0 k = LL at *; dsimp only [st35_0]
      rw [cf (by (rw [Bool.eq_false_iff]; simp only [ne_eq, Bool.and_eq_true, Bool.or_eq_true, decide_eq_true_eq, beq_iff_eq, bne_iff_ne, Bool.not_eq_true', decide_eq_false_iff_not, and_true, true_and]; omega)), show j = L.length from by omega]
  | succ d ih =>
    intro j k hj hd
    cases k with
    | zero => omega
    | succ k =>
      have ih' := ih (j + 1) k (by omega) (by omega)
      obtain ⟨g1, g2⟩ := seg_rd hk he j (by omega)
      have hbl := bldM_len e o L j
      rw [loopN_s]; generalize loopN st35_0 k = LL at ih' ⊢; dsimp only [st35_0]
      rw [ct (by (simp only [ne_eq, Bool.and_eq_true, Bool.or_eq_true, decide_eq_true_eq, beq_iff_eq, bne_iff_ne, Bool.not_eq_true', decide_eq_false_iff_not, and_true, true_and]; omega)), Decode_eq b (by omega), g2]
      simp only [Option.bind_some]
      rw [cf (b := (0 : Int) != 0) rfl, ct (by (simp only [ne_eq, Bool.and_eq_true, Bool.or_eq_true, decide_eq_true_eq, beq_iff_eq, bne_iff_ne, Bool.not_eq_true', decide_eq_false_iff_not, and_true, true_and]; omega)), show o + (j : Int) - o = (j : Int) from by omega, i64w (by omega) (by omega), tmod_nn (by omega)]
      rw [bldM_succ] at ih'
      by_cases hm : (j : Int) % e = 0
      · rw [if_pos hm] at ih'
        rw [ct (by (simp only [ne_eq, Bool.and_eq_true, Bool.or_eq_true, decide_eq_true_eq, beq_iff_eq, bne_iff_ne, Bool.not_eq_true', decide_eq_false_iff_not, and_true, true_and]; omega)), ct (by (simp only [ne_eq, Bool.and_eq_true, Bool.or_eq_true, decide_eq_true_eq, beq_iff_eq, bne_iff_ne, Bool.not_eq_true', decide_eq_false_iff_not, and_true, true_and]; omega))]; exact ih'
      · rw [if_neg hm] at ih'
        rw [cf (by (rw [Bool.eq_false_iff]; simp only [ne_eq, Bool.and_eq_true, Bool.or_eq_true, decide_eq_true_eq, beq_iff_eq, bne_iff_ne, Bool.not_eq_true', decide_eq_false_iff_not, and_true, true_and]; omega))]; exact ih'
def evr (a : Int) : Int := if 1 > a then 1 else a
theorem evr_one (a : Int) : 1 ≤ evr a := by unfold evr; split <;> omega
theorem Build_eq {b : List UInt8} {o : Int} {L : List RV} (hk : okL o L) (he : b = segB o L) (hb : b.length ≤ 65536) (nx a : Int) : g35 o nx b a = some (bldM (evr a) o L L.length) := by
  have hL := segB_len L o hk
  rw [← he] at hL
  have := build_loop hk he hb (evr a) nx (evr_one a) L.length 0 fuel (by omega) (by rw [fuel_eq]; omega)
  rw [posL_zero] at this
  unfold g35 h35_0
  have this' : loopN st35_0 fuel ((evr a, 0), ([], o, nx, b)) = _ := this
  rw [if_pos rfl]
  show Option.bind (loopN st35_0 fuel ((evr a, 0), ([], o, nx, b))) _ = _
  rw [this']
  simp
theorem ref_build_loop {o : Int} {L : List RV} (hl : L.length ≤ 65536) (a : Int) : ∀ (d j k : Nat), j + d = L.length → d < k →
    loopN st36_0 k ((a, allM o L, (j : Int)), bldM (evr a) o L j) = some (.inl ((), bldM (evr a) o L L.length)) := by
  have h1 := allM_len o L
  intro d
  induction d with
  | zero =>
    intro j k hj hd
    cases k with
    | zero => omega
    | succ k =>
      rw [loopN_s]; generalize loopN st36_0 k = LL at *; dsimp only [st36_0]
      rw [cf (by (rw [Bool.eq_false_iff]; simp only [ne_eq, Bool.and_eq_true, Bool.or_eq_true, decide_eq_true_eq, beq_iff_eq, bne_iff_ne, Bool.not_eq_true', decide_eq_false_iff_not, and_true, true_and]; omega)), show j = L.length from by omega]
  | succ d ih =>
    intro j k hj hd
    cases k with
    | zero => omega
    | succ k =>
      have ih' := ih (j + 1) k (by omega) (by omega)
      have hbl := bldM_len (evr a) o L j
      have hat : (allM o L).getD j (0, 0) = mrk o L j := by rw [getD_at _ (by rw [allM_len]; omega), allM_at o L j (by omega)]
      rw [loopN_s]; generalize loopN st36_0 k = LL at ih' ⊢; dsimp only [st36_0]
      rw [bldM_succ] at ih'
      rw [ct (by (simp only [ne_eq, Bool.and_eq_true, Bool.or_eq_true, decide_eq_true_eq, beq_iff_eq, bne_iff_ne, Bool.not_eq_true', decide_eq_false_iff_not, and_true, true_and]; omega)), Int.toNat_natCast, hat, i64w (n := (j : Int) + 1) (by omega) (by omega)]
      by_cases ha : a ≤ 1
      · have e1 : evr a = 1 := by unfold evr; split <;> omega
        rw [if_pos (by rw [e1]; omega)] at ih'
        rw [ct (by (simp only [ne_eq, Bool.and_eq_true, Bool.or_eq_true, decide_eq_true_eq, beq_iff_eq, bne_iff_ne, Bool.not_eq_true', decide_eq_false_iff_not, and_true, true_and]; omega)), ct (by (simp only [ne_eq, Bool.and_eq_true, Bool.or_eq_true, decide_eq_true_eq, beq_iff_eq, bne_iff_ne, Bool.not_eq_true', decide_eq_false_iff_not, and_true, true_and]; omega)), ct (by (simp only [ne_eq, Bool.and_eq_true, Bool.or_eq_true, decide_eq_true_eq, beq_iff_eq, bne_iff_ne, Bool.not_eq_true', decide_eq_false_iff_not, and_true, true_and]; omega))]; exact ih'
      · have e1 : evr a = a := by unfold evr; split <;> omega
        rw [cf (by (rw [Bool.eq_false_iff]; simp only [ne_eq, Bool.and_eq_true, Bool.or_eq_true, decide_eq_true_eq, beq_iff_eq, bne_iff_ne, Bool.not_eq_true', decide_eq_false_iff_not, and_true, true_and]; omega)), ct (by (simp only [ne_eq, Bool.and_eq_true, Bool.or_eq_true, decide_eq_true_eq, beq_iff_eq, bne_iff_ne, Bool.not_eq_true', decide_eq_false_iff_not, and_true, true_and]; omega)), tmod_nn (by omega)]
        by_cases hm : (j : Int) % a = 0
        · rw [if_pos (by rw [e1]; exact hm)] at ih'
          rw [ct (by (simp only [ne_eq, Bool.and_eq_true, Bool.or_eq_true, decide_eq_true_eq, beq_iff_eq, bne_iff_ne, Bool.not_eq_true', decide_eq_false_iff_not, and_true, true_and]; omega)), ct (by (simp only [ne_eq, Bool.and_eq_true, Bool.or_eq_true, decide_eq_true_eq, beq_iff_eq, bne_iff_ne, Bool.not_eq_true', decide_eq_false_iff_not, and_true, true_and]; omega)), ct (by (simp only [ne_eq, Bool.and_eq_true, Bool.or_eq_true, decide_eq_true_eq, beq_iff_eq, bne_iff_ne, Bool.not_eq_true', decide_eq_false_iff_not, and_true, true_and]; omega))]; exact ih'
        · rw [if_neg (by rw [e1]; exact hm)] at ih'
          rw [cf (by (rw [Bool.eq_false_iff]; simp only [ne_eq, Bool.and_eq_true, Bool.or_eq_true, decide_eq_true_eq, beq_iff_eq, bne_iff_ne, Bool.not_eq_true', decide_eq_false_iff_not, and_true, true_and]; omega))]; exact ih'
theorem ref_Build_eq {b : List UInt8} {o : Int} {L : List RV} (hk : okL o L) (he : b = segB o L) (hb : b.length ≤ 65536) (nx a : Int) : g36 o nx b a = some (bldM (evr a) o L L.length) := by
  have hL := segB_len L o hk
  rw [← he] at hL
  have := ref_build_loop (o := o) (L := L) (by omega) a L.length 0 fuel (by omega) (by rw [fuel_eq]; omega)
  unfold g36 h36_0
  rw [All_eq hk he hb]
  simp only [Option.bind_some]
  have this' : loopN st36_0 fuel ((a, allM o L, 0), []) = _ := this
  rw [this']
  simp
/-! ### equal lists of marks -/
theorem same_loop (l : List Mark) (hl : l.length ≤ 9223372036854775806) : ∀ (d j k : Nat), j + d = l.length → d < k → loopN st34_0 k ((l, l, (j : Int)), ()) = some (.inl ((), ())) := by
  intro d
  induction d with
  | zero =>
    intro j k hj hd
    cases k with
    | zero => omega
    | succ k =>
      rw [loopN_s]; generalize loopN st34_0 k = LL at *; dsimp only [st34_0]
      rw [cf (by (rw [Bool.eq_false_iff]; simp only [ne_eq, Bool.and_eq_true, Bool.or_eq_true, decide_eq_true_eq, beq_iff_eq, bne_iff_ne, Bool.not_eq_true', decide_eq_false_iff_not, and_true, true_and]; omega))]
  | succ d ih =>
    intro j k hj hd
    cases k with
    | zero => omega
    | succ k =>
      have ih' := ih (j + 1) k (by omega) (by omega)
      rw [loopN_s]; generalize loopN st34_0 k = LL at ih' ⊢; dsimp only [st34_0]
      rw [ct (by (simp only [ne_eq, Bool.and_eq_true, Bool.or_eq_true, decide_eq_true_eq, beq_iff_eq, bne_iff_ne, Bool.not_eq_true', decide_eq_false_iff_not, and_true, true_and]; omega)), ct (by (simp only [ne_eq, Bool.and_eq_true, Bool.or_eq_true, decide_eq_true_eq, beq_iff_eq, bne_iff_ne, Bool.not_eq_true', decide_eq_false_iff_not, and_true, true_and]; omega)), ct (by (simp only [ne_eq, Bool.and_eq_true, Bool.or_eq_true, decide_eq_true_eq, beq_iff_eq, bne_iff_ne, Bool.not_eq_true', decide_eq_false_iff_not, and_true, true_and]; omega)), cf (by simp), i64w (by omega) (by omega)]
      exact ih'
theorem Same_eq (l : List Mark) (hl : l.length ≤ 9223372036854775806) : g34 l l = some true := by
  have := same_loop l hl l.length 0 fuel (by omega) (by rw [fuel_eq]; omega)
  unfold g34 h34_0
  have this' : loopN st34_0 fuel ((l, l, 0), ()) = _ := this
  rw [cf (by simp), this']
  rfl
/-! ### the reference's check of a segment -/
theorem ref_ck_loop (base nx : Int) (b : List UInt8) (hb0 : 0 ≤ base) (hb1 : base ≤ 1099511627776) (hlen : b.length ≤ 65536) : ∀ (d : Nat) (p i : Int) (k : Nat), 0 ≤ i → i ≤ p → p ≤ (b.length : Int) → (b.length : Int) - p < d → d ≤ k →
    ∃ o, loopN st49_0 k ((p, i), (base, nx, b)) = some o ∧ (match o with | .inl x => cond (x.2.2.1 != IntKind.i64.wrap (x.2.1 + x.1)) (some 1) (some 0) | .inr x => some x) = some (ckS b nx d (base + i) p) := by
  intro d
  induction d with
  | zero => intro p i k h0 h1 h2; omega
  | succ d ih =>
    intro p i k hi0 hip h1 h2 hk
    cases k with
    | zero => omega
    | succ k =>
      have ih' := fun p i a b c e => ih p i k a b c e (by omega)
      rw [loopN_s]; generalize loopN st49_0 k = L at ih' ⊢; dsimp only [st49_0]
      unfold ckS
      by_cases hp : p < (b.length : Int)
      · rw [ct (by (simp only [ne_eq, Bool.and_eq_true, Bool.or_eq_true, decide_eq_true_eq, beq_iff_eq, bne_iff_ne, Bool.not_eq_true', decide_eq_false_iff_not, and_true, true_and]; omega)), ref_Decode_eq b (by omega) p, if_pos hp]
        simp only [Option.bind_some]
        by_cases he : (rDec b p).2.2.2.2.2 = 0
        · obtain ⟨k1, k2, k3, k4, k5⟩ := rDec_next trivial he
          rw [if_pos he, cf (by (rw [Bool.eq_false_iff]; simp only [ne_eq, Bool.and_eq_true, Bool.or_eq_true, decide_eq_true_eq, beq_iff_eq, bne_iff_ne, Bool.not_eq_true', decide_eq_false_iff_not, and_true, true_and]; omega)), i64w (n := base + i) (by omega) (by omega), i64w (n := i + 1) (by omega) (by omega)]
          by_cases hn : (rDec b p).1 = base + i
          · rw [if_pos hn, cf (by (rw [Bool.eq_false_iff]; simp only [ne_eq, Bool.and_eq_true, Bool.or_eq_true, decide_eq_true_eq, beq_iff_eq, bne_iff_ne, Bool.not_eq_true', decide_eq_false_iff_not, and_true, true_and]; omega)), Int.add_assoc]
            exact ih' _ _ (by omega) (by omega) k3 (by omega)
          · rw [if_neg hn, ct (by (simp only [ne_eq, Bool.and_eq_true, Bool.or_eq_true, decide_eq_true_eq, beq_iff_eq, bne_iff_ne, Bool.not_eq_true', decide_eq_false_iff_not, and_true, true_and]; omega))]; exact ⟨_, rfl, rfl⟩
        · rw [if_neg he, ct (by (simp only [ne_eq, Bool.and_eq_true, Bool.or_eq_true, decide_eq_true_eq, beq_iff_eq, bne_iff_ne, Bool.not_eq_true', decide_eq_false_iff_not, and_true, true_and]; omega))]; exact ⟨_, rfl, rfl⟩
      · rw [cf (by (rw [Bool.eq_false_iff]; simp only [ne_eq, Bool.and_eq_true, Bool.or_eq_true, decide_eq_true_eq, beq_iff_eq, bne_iff_ne, Bool.not_eq_true', decide_eq_false_iff_not, and_true, true_and]; omega)), if_neg hp]
        refine ⟨_, rfl, ?_⟩
        show cond (nx != IntKind.i64.wrap (base + i)) (some 1) (some 0) = _
        rw [i64w (n := base + i) (by omega) (by omega)]
        by_cases hn : nx = base + i
        · rw [if_pos hn, cf (by (rw [Bool.eq_false_iff]; simp only [ne_eq, Bool.and_eq_true, Bool.or_eq_true, decide_eq_true_eq, beq_iff_eq, bne_iff_ne, Bool.not_eq_true', decide_eq_false_iff_not, and_true, true_and]; omega))]
        · rw [if_neg hn, ct (by (simp only [ne_eq, Bool.and_eq_true, Bool.or_eq_true, decide_eq_true_eq, beq_iff_eq, bne_iff_ne, Bool.not_eq_true', decide_eq_false_iff_not, and_true, true_and]; omega))]
theorem ref_seg_Check_eq (base nx : Int) (b : List UInt8) : g49 base nx b = some (sChk base nx b) := by
  unfold g49 sChk
  by_cases h0 : base < 0
  · rw [ct (by (simp only [ne_eq, Bool.and_eq_true, Bool.or_eq_true, decide_eq_true_eq, beq_iff_eq, bne_iff_ne, Bool.not_eq_true', decide_eq_false_iff_not, and_true, true_and]; omega)), if_pos h0]
  · by_cases h1 : base > 1099511627776
    · rw [cf (by (rw [Bool.eq_false_iff]; simp only [ne_eq, Bool.and_eq_true, Bool.or_eq_true, decide_eq_true_eq, beq_iff_eq, bne_iff_ne, Bool.not_eq_true', decide_eq_false_iff_not, and_true, true_and]; omega)), ct (by (simp only [ne_eq, Bool.and_eq_true, Bool.or_eq_true, decide_eq_true_eq, beq_iff_eq, bne_iff_ne, Bool.not_eq_true', decide_eq_false_iff_not, and_true, true_and]; omega)), if_neg h0, if_pos h1]
    · by_cases h2 : (b.length : Int) > 65536
      · rw [cf (by (rw [Bool.eq_false_iff]; simp only [ne_eq, Bool.and_eq_true, Bool.or_eq_true, decide_eq_true_eq, beq_iff_eq, bne_iff_ne, Bool.not_eq_true', decide_eq_false_iff_not, and_true, true_and]; omega)), cf (by (rw [Bool.eq_false_iff]; simp only [ne_eq, Bool.and_eq_true, Bool.or_eq_true, decide_eq_true_eq, beq_iff_eq, bne_iff_ne, Bool.not_eq_true', decide_eq_false_iff_not, and_true, true_and]; omega)), ct (by (simp only [ne_eq, Bool.and_eq_true, Bool.or_eq_true, decide_eq_true_eq, beq_iff_eq, bne_iff_ne, Bool.not_eq_true', decide_eq_false_iff_not, and_true, true_and]; omega)), if_neg h0, if_neg h1, if_pos h2]
      · rw [cf (by (rw [Bool.eq_false_iff]; simp only [ne_eq, Bool.and_eq_true, Bool.or_eq_true, decide_eq_true_eq, beq_iff_eq, bne_iff_ne, Bool.not_eq_true', decide_eq_false_iff_not, and_true, true_and]; omega)), cf (by (rw [Bool.eq_false_iff]; simp only [ne_eq, Bool.and_eq_true, Bool.or_eq_true, decide_eq_true_eq, beq_iff_eq, bne_iff_ne, Bool.not_eq_true', decide_eq_false_iff_not, and_true, true_and]; omega)), cf (by (rw [Bool.eq_false_iff]; simp only [ne_eq, Bool.and_eq_true, Bool.or_eq_true, decide_eq_true_eq, beq_iff_eq, bne_iff_ne, Bool.not_eq_true', decide_eq_false_iff_not, and_true, true_and]; omega)), if_neg h0, if_neg h1, if_neg h2]
        obtain ⟨o, k1, k2⟩ := ref_ck_loop base nx b (by omega) (by omega) (by omega) (b.length + 1) 0 0 fuel (by omega) (by omega) (by omega) (by omega) (fuel_gt (by omega))
        unfold h49_0
        rw [k1]
        simp only [Option.bind_some]
        rw [Int.add_zero] at k2
        exact k2
/-- What 'valid' says. -/
theorem valid_eq (o nx : Int) (b : List UInt8) (l : List Mark) : ∃ v, g32 o nx b l = some v ∧ (v = true → b.length ≤ 4000 ∧ l.length ≤ 60 ∧ 0 ≤ o ∧ o ≤ 1099511627776 ∧ ∃ L, okL o L ∧ b = segB o L ∧ nx = o + (L.length : Int)) := by
  unfold g32
  by_cases h1 : (b.length : Int) ≤ 4000
  · by_cases h2 : (l.length : Int) ≤ 60
    · rw [ct (by (simp only [ne_eq, Bool.and_eq_true, Bool.or_eq_true, decide_eq_true_eq, beq_iff_eq, bne_iff_ne, Bool.not_eq_true', decide_eq_false_iff_not, and_true, true_and]; omega)), ct (by (simp only [ne_eq, Bool.and_eq_true, Bool.or_eq_true, decide_eq_true_eq, beq_iff_eq, bne_iff_ne, Bool.not_eq_true', decide_eq_false_iff_not, and_true, true_and]; omega)), ref_seg_Check_eq]
      refine ⟨_, rfl, fun h => ?_⟩
      obtain ⟨a1, a2, a3, L, a4, a5, a6⟩ := sChk_zero trivial (by simpa using h : sChk o nx b = 0)
      exact ⟨by omega, by omega, a1, a2, L, a4, a5, a6⟩
    · rw [ct (by (simp only [ne_eq, Bool.and_eq_true, Bool.or_eq_true, decide_eq_true_eq, beq_iff_eq, bne_iff_ne, Bool.not_eq_true', decide_eq_false_iff_not, and_true, true_and]; omega)), cf (by (rw [Bool.eq_false_iff]; simp only [ne_eq, Bool.and_eq_true, Bool.or_eq_true, decide_eq_true_eq, beq_iff_eq, bne_iff_ne, Bool.not_eq_true', decide_eq_false_iff_not, and_true, true_and]; omega))]; exact ⟨false, rfl, fun h => by cases h⟩
  · rw [cf (by (rw [Bool.eq_false_iff]; simp only [ne_eq, Bool.and_eq_true, Bool.or_eq_true, decide_eq_true_eq, beq_iff_eq, bne_iff_ne, Bool.not_eq_true', decide_eq_false_iff_not, and_true, true_and]; omega))]; exact ⟨false, rfl, fun h => by cases h⟩
end Go.Proofs.Ytkkelbakadbbhaa.EVT
/- What the printed functions of package index, and of its reference, compute: which marks are a segment's. -/
set_option linter.unusedVariables false
set_option linter.unusedSimpArgs false
namespace Go.Proofs.Ytkkelbakadbbhaa.EVT
open Go Go.EV

def mAt (l : List Mark) (i : Nat) : Mark := l.getD i (0, 0)
def Mine (o : Int) (L : List RV) (m : Mark) : Prop := ∃ j, j < L.length ∧ m = mrk o L j
def Rise (l : List Mark) (i : Nat) : Prop := ∀ m, i ≤ m + 1 → m + 1 < l.length → (mAt l m).1 < (mAt l (m + 1)).1
def Good (o : Int) (L : List RV) (l : List Mark) : Prop := (∀ m, m < l.length → Mine o L (mAt l m)) ∧ Rise l 1
theorem risB_iff (l : List Mark) : ∀ (d i : Nat), 1 ≤ i → l.length ≤ i + d → (risB l d i = true ↔ Rise l i) := by
  intro d
  induction d with
  | zero =>
    intro i h1 hi
    simp only [risB, true_iff]
    intro m h2 h3; omega
  | succ d ih =>
    intro i h1 hi
    unfold risB
    by_cases hp : i < l.length
    · rw [if_pos hp]
      by_cases hc : (l.getD i (0, 0)).1 ≤ (l.getD (i - 1) (0, 0)).1
      · rw [if_pos hc]
        simp only [Bool.false_eq_true, false_iff]
        intro h
        have := h (i - 1) (by omega) (by omega)
        rw [show i - 1 + 1 = i from by omega] at this
        unfold mAt at this
        omega
      · rw [if_neg hc, ih (i + 1) (by omega) (by omega)]
        constructor
        · intro h m h2 h3
          rcases Nat.lt_or_ge (m + 1) (i + 1) with h4 | h4
          · have e : m = i - 1 := by omega
            subst e
            rw [show i - 1 + 1 = i from by omega]
            unfold mAt; omega
          · exact h m h4 h3
        · intro h m h2 h3; exact h m (by omega) h3
    · rw [if_neg hp]
      simp only [true_iff]
      intro m h2 h3; omega
theorem mark_eq {x y : Mark} : (x.1 == y.1 && (x.2 == y.2 && true)) = true ↔ x = y := by
  cases x; cases y; simp
theorem all_at (o : Int) (L : List RV) (j : Nat) (h : j < L.length) : (allM o L).getD j (0, 0) = mrk o L j := by rw [getD_at _ (by rw [allM_len]; omega), allM_at o L j h]
theorem chk1_loop (o : Int) (L : List RV) (hL : L.length ≤ 65536) (l : List Mark) (hl : l.length ≤ 65536) (i : Nat) (hi : i < l.length) : ∀ (d j k : Nat) (c : Bool), j + d = L.length → d < k →
    ∃ c', loopN st38_1 k ((l, allM o L, (i : Int), c, (j : Int)), ()) = some (.inl ((l, allM o L, (i : Int), c'), ())) ∧ (c' = true ↔ (c = true ∨ ∃ j', j ≤ j' ∧ j' < L.length ∧ mAt l i = mrk o L j')) := by
  have h1 := allM_len o L
  intro d
  induction d with
  | zero =>
    intro j k c hj hd
    cases k with
    | zero => omega
    | succ k =>
      rw [loopN_s]; generalize loopN st38_1 k = LL at *; dsimp only [st38_1]
      rw [cf (by (rw [Bool.eq_false_iff]; simp only [ne_eq, Bool.and_eq_true, Bool.or_eq_true, decide_eq_true_eq, beq_iff_eq, bne_iff_ne, Bool.not_eq_true', decide_eq_false_iff_not, and_true, true_and]; omega))]
      refine ⟨c, rfl, ⟨fun h => .inl h, fun h => ?_⟩⟩
      rcases h with h | ⟨j', h2, h3, _⟩
      · exact h
      · omega
  | succ d ih =>
    intro j k c hj hd
    cases k with
    | zero => omega
    | succ k =>
      have ih' := fun c => ih (j + 1) k c (by omega) (by omega)
      have hat := all_at o L j (by omega)
      rw [loopN_s]; generalize loopN st38_1 k = LL at ih' ⊢; dsimp only [st38_1]
      rw [ct (by (simp only [ne_eq, Bool.and_eq_true, Bool.or_eq_true, decide_eq_true_eq, beq_iff_eq, bne_iff_ne, Bool.not_eq_true', decide_eq_false_iff_not, and_true, true_and]; omega)), ct (by (simp only [ne_eq, Bool.and_eq_true, Bool.or_eq_true, decide_eq_true_eq, beq_iff_eq, bne_iff_ne, Bool.not_eq_true', decide_eq_false_iff_not, and_true, true_and]; omega)), ct (by (simp only [ne_eq, Bool.and_eq_true, Bool.or_eq_true, decide_eq_true_eq, beq_iff_eq, bne_iff_ne, Bool.not_eq_true', decide_eq_false_iff_not, and_true, true_and]; omega)), Int.toNat_natCast, Int.toNat_natCast, hat, i64w (n := (j : Int) + 1) (by omega) (by omega)]
      show ∃ c', cond ((mrk o L j).1 == (mAt l i).1 && ((mrk o L j).2 == (mAt l i).2 && true)) _ _ = _ ∧ _
      by_cases hm : mrk o L j = mAt l i
      · obtain ⟨c', k1, k2⟩ := ih' true
        rw [ct (mark_eq.2 hm)]
        refine ⟨c', k1, k2.trans ⟨fun _ => .inr ⟨j, Nat.le_refl _, by omega, hm.symm⟩, fun _ => .inl rfl⟩⟩
      · obtain ⟨c', k1, k2⟩ := ih' c
        rw [cf (by rw [Bool.eq_false_iff]; exact fun h => hm (mark_eq.1 h))]
        refine ⟨c', k1, k2.trans ⟨?_, ?_⟩⟩
        · rintro (h | ⟨j', h2, h3, h4⟩)
          · exact .inl h
          · exact .inr ⟨j', by omega, h3, h4⟩
        · rintro (h | ⟨j', h2, h3, h4⟩)
          · exact .inl h
          · rcases Nat.eq_or_lt_of_le h2 with rfl | h2
            · exact absurd h4.symm hm
            · exact .inr ⟨j', h2, h3, h4⟩
theorem chk0_loop (o : Int) (L : List RV) (hL : L.length ≤ 65536) (l : List Mark) (hl : l.length ≤ 65536) : ∀ (d i k : Nat), i + d = l.length → d < k →
    ∃ out, loopN st38_0 k ((l, allM o L, (i : Int)), ()) = some out ∧ ((out = .inl (l, ()) ∧ ∀ m, i ≤ m → m < l.length → Mine o L (mAt l m)) ∨ (out = .inr false ∧ ¬ ∀ m, i ≤ m → m < l.length → Mine o L (mAt l m))) := by
  intro d
  induction d with
  | zero =>
    intro i k hi hd
    cases k with
    | zero => omega
    | succ k =>
      rw [loopN_s]; generalize loopN st38_0 k = LL at *; dsimp only [st38_0]
      rw [cf (by (rw [Bool.eq_false_iff]; simp only [ne_eq, Bool.and_eq_true, Bool.or_eq_true, decide_eq_true_eq, beq_iff_eq, bne_iff_ne, Bool.not_eq_true', decide_eq_false_iff_not, and_true, true_and]; omega))]
      exact ⟨_, rfl, .inl ⟨rfl, fun m h1 h2 => by omega⟩⟩
  | succ d ih =>
    intro i k hi hd
    cases k with
    | zero => omega
    | succ k =>
      obtain ⟨out, k1, k2⟩ := ih (i + 1) k (by omega) (by omega)
      obtain ⟨c, q1, q2⟩ := chk1_loop o L hL l hl i (by omega) L.length 0 fuel false (by omega) (by rw [fuel_eq]; omega)
      rw [loopN_s]; generalize loopN st38_0 k = LL at k1 ⊢; dsimp only [st38_0]
      have q1' : h38_1 ((l, allM o L, (i : Int), false, 0), ()) = _ := q1
      rw [ct (by (simp only [ne_eq, Bool.and_eq_true, Bool.or_eq_true, decide_eq_true_eq, beq_iff_eq, bne_iff_ne, Bool.not_eq_true', decide_eq_false_iff_not, and_true, true_and]; omega)), q1']
      simp only [Option.bind_some]
      cases c with
      | false =>
        refine ⟨_, ct (b := !false) rfl, .inr ⟨rfl, fun h => ?_⟩⟩
        obtain ⟨j, h1, h2⟩ := h i (Nat.le_refl _) (by omega)
        have := q2.2 (.inr ⟨j, by omega, h1, h2⟩)
        cases this
      | true =>
        rw [cf (b := !true) rfl, i64w (by omega) (by omega)]
        refine ⟨out, k1, ?_⟩
        have hmine : Mine o L (mAt l i) := by
          rcases q2.1 rfl with h | ⟨j, _, h1, h2⟩
          · cases h
          · exact ⟨j, h1, h2⟩
        rcases k2 with ⟨e, h⟩ | ⟨e, h⟩
        · refine .inl ⟨e, fun m h1 h2 => ?_⟩
          rcases Nat.eq_or_lt_of_le h1 with rfl | h1
          · exact hmine
          · exact h m h1 h2
        · exact .inr ⟨e, fun h' => h (fun m h1 h2 => h' m (by omega) h2)⟩
theorem ref_index_Check_eq {b : List UInt8} {o : Int} {L : List RV} (hk : okL o L) (he : b = segB o L) (hb : b.length ≤ 65536) (nx : Int) (l : List Mark) (hl : l.length ≤ 65536) : ∃ r, g38 o nx b l = some r ∧ (r = true ↔ Good o L l) := by
  have hL := segB_len L o hk
  rw [← he] at hL
  obtain ⟨out, k1, k2⟩ := chk0_loop o L (by omega) l hl l.length 0 fuel (by omega) (by rw [fuel_eq]; omega)
  unfold g38 h38_0
  rw [All_eq hk he hb]
  simp only [Option.bind_some]
  have k1' : loopN st38_0 fuel ((l, allM o L, 0), ()) = _ := k1
  rw [k1']
  simp only [Option.bind_some]
  rcases k2 with ⟨rfl, h⟩ | ⟨rfl, h⟩
  · dsimp only
    rw [Rising_eq l (by omega)]
    refine ⟨_, rfl, (risB_iff l l.length 1 (by omega) (by omega)).trans ⟨fun h2 => ⟨fun m hm => h m (by omega) hm, h2⟩, fun h2 => h2.2⟩⟩
  · exact ⟨false, rfl, by simp only [Bool.false_eq_true, false_iff]; exact fun h2 => h (fun m _ hm => h2.1 m hm)⟩
/-! ### the index's own check -/
theorem scan_loop {b : List UInt8} {o : Int} {L : List RV} (hk : okL o L) (he : b = segB o L) (hb : b.length ≤ 65536) (nx : Int) (l : List Mark) (n i : Int) (f : Mark) : ∀ (d j k : Nat), j + d = L.length → d < k →
    (∃ j', j ≤ j' ∧ j' < L.length ∧ f = mrk o L j' ∧ loopN st37_1 k ((l, (posL o L j : Int), l, n, i), (f, o, nx, b)) = some (.inl ((l, (posL o L j' : Int), l, n, i), (o, nx, b)))) ∨
    ((¬ ∃ j', j ≤ j' ∧ j' < L.length ∧ f = mrk o L j') ∧ ∃ x, loopN st37_1 k ((l, (posL o L j : Int), l, n, i), (f, o, nx, b)) = some (.inr x) ∧ (x = .inl ((), ()) ∨ x = .inr false)) := by
  intro d
  induction d with
  | zero =>
    intro j k hj hd
    cases k with
    | zero => omega
    | succ k =>
      have := pos_end he j (by omega)
      rw [loopN_s]; generalize loopN st37_1 k = LL at *; dsimp only [st37_1]
      rw [cf (by (rw [Bool.eq_false_iff]; simp only [ne_eq, Bool.and_eq_true, Bool.or_eq_true, decide_eq_true_eq, beq_iff_eq, bne_iff_ne, Bool.not_eq_true', decide_eq_false_iff_not, and_true, true_and]; omega))]
      exact .inr ⟨fun ⟨j', h1, h2, _⟩ => by omega, _, rfl, .inl rfl⟩
  | succ d ih =>
    intro j k hj hd
    cases k with
    | zero => omega
    | succ k =>
      have ih' := ih (j + 1) k (by omega) (by omega)
      obtain ⟨g1, g2⟩ := seg_rd hk he j (by omega)
      rw [loopN_s]; generalize loopN st37_1 k = LL at ih' ⊢; dsimp only [st37_1]
      rw [ct (by (simp only [ne_eq, Bool.and_eq_true, Bool.or_eq_true, decide_eq_true_eq, beq_iff_eq, bne_iff_ne, Bool.not_eq_true', decide_eq_false_iff_not, and_true, true_and]; omega)), Decode_eq b (by omega), g2]
      simp only [Option.bind_some]
      rw [cf (b := (0 : Int) != 0) rfl]
      by_cases h0 : o + (j : Int) = f.1
      · rw [ct (by (simp only [ne_eq, Bool.and_eq_true, Bool.or_eq_true, decide_eq_true_eq, beq_iff_eq, bne_iff_ne, Bool.not_eq_true', decide_eq_false_iff_not, and_true, true_and]; omega))]
        by_cases h1 : (posL o L j : Int) = f.2
        · rw [cf (by (rw [Bool.eq_false_iff]; simp only [ne_eq, Bool.and_eq_true, Bool.or_eq_true, decide_eq_true_eq, beq_iff_eq, bne_iff_ne, Bool.not_eq_true', decide_eq_false_iff_not, and_true, true_and]; omega))]
          exact .inl ⟨j, Nat.le_refl _, by omega, Prod.ext h0.symm h1.symm, rfl⟩
        · rw [ct (by (simp only [ne_eq, Bool.and_eq_true, Bool.or_eq_true, decide_eq_true_eq, beq_iff_eq, bne_iff_ne, Bool.not_eq_true', decide_eq_false_iff_not, and_true, true_and]; omega))]
          refine .inr ⟨?_, _, rfl, .inr rfl⟩
          rintro ⟨j', h2, h3, rfl⟩
          have e1 : (mrk o L j').1 = o + (j' : Int) := rfl
          have : j' = j := by omega
          subst this; exact h1 rfl
      · rw [cf (by (rw [Bool.eq_false_iff]; simp only [ne_eq, Bool.and_eq_true, Bool.or_eq_true, decide_eq_true_eq, beq_iff_eq, bne_iff_ne, Bool.not_eq_true', decide_eq_false_iff_not, and_true, true_and]; omega))]
        rcases ih' with ⟨j', h2, h3, h4, h5⟩ | ⟨h2, x, h3, h4⟩
        · exact .inl ⟨j', by omega, h3, h4, h5⟩
        · refine .inr ⟨?_, x, h3, h4⟩
          rintro ⟨j', h5, h6, h7⟩
          rcases Nat.eq_or_lt_of_le h5 with rfl | h5
          · apply h0; rw [h7]; rfl
          · exact h2 ⟨j', h5, h6, h7⟩
/-- All marks from i on are the segment's, and each lies above the one before it. -/
def GoodFrom (o : Int) (L : List RV) (l : List Mark) (i : Nat) : Prop := ∀ m, i ≤ m → m < l.length → Mine o L (mAt l m) ∧ (0 < m → (mAt l (m - 1)).1 < (mAt l m).1)
theorem goodFrom_iff (o : Int) (L : List RV) (l : List Mark) : GoodFrom o L l 0 ↔ Good o L l := by
  constructor
  · intro h
    refine ⟨fun i hi => (h i (Nat.zero_le _) hi).1, fun m _ hm => ?_⟩
    have := (h (m + 1) (Nat.zero_le _) hm).2 (by omega)
    simpa using this
  · intro h m _ hm
    refine ⟨h.1 m hm, fun h0 => ?_⟩
    have := h.2 (m - 1) (by omega) (by omega)
    have e : m - 1 + 1 = m := by omega
    simpa [e] using this
theorem ichk_loop {b : List UInt8} {o : Int} {L : List RV} (hk : okL o L) (he : b = segB o L) (hb : b.length ≤ 65536) (nx : Int) (l : List Mark) (hl : l.length ≤ 65536) : ∀ (d i j k : Nat), i + d = l.length → d < k → (i = 0 ∧ j = 0 ∨ (0 < i ∧ j < L.length ∧ mAt l (i - 1) = mrk o L j)) →
    ∃ out, loopN st37_0 k ((l, (posL o L j : Int), l, (l.length : Int), (i : Int)), (o, nx, b)) = some out ∧ ((out = .inl ((), ()) ∧ GoodFrom o L l i) ∨ (out = .inr false ∧ ¬ GoodFrom o L l i)) := by
  have hL := segB_len L o hk
  rw [← he] at hL
  intro d
  induction d with
  | zero =>
    intro i j k hi hd hj
    cases k with
    | zero => omega
    | succ k =>
      rw [loopN_s]; generalize loopN st37_0 k = LL at *; dsimp only [st37_0]
      rw [cf (by (rw [Bool.eq_false_iff]; simp only [ne_eq, Bool.and_eq_true, Bool.or_eq_true, decide_eq_true_eq, beq_iff_eq, bne_iff_ne, Bool.not_eq_true', decide_eq_false_iff_not, and_true, true_and]; omega))]
      exact ⟨_, rfl, .inl ⟨rfl, fun m h1 h2 => by omega⟩⟩
  | succ d ih =>
    intro i j k hi hd hj
    cases k with
    | zero => omega
    | succ k =>
      have ih' := fun j a => ih (i + 1) j k (by omega) (by omega) a
      have hjL : j ≤ L.length := by rcases hj with ⟨_, h⟩ | ⟨_, h, _⟩ <;> omega
      have scan := scan_loop hk he hb nx l (l.length : Int) (i : Int) (mAt l i) (L.length - j) j fuel (by omega) (by rw [fuel_eq]; omega)
      rw [loopN_s]; generalize loopN st37_0 k = LL at ih' ⊢; dsimp only [st37_0]
      -- what follows the scan
      have after : (0 < i → (mAt l (i - 1)).1 < (mAt l i).1) → ∃ out, (Option.bind (h37_1 ((l, (posL o L j : Int), l, (l.length : Int), (i : Int)), (mAt l i, o, nx, b))) fun v1 =>
            match v1 with
            | .inl x2 => LL ((x2.1.1, x2.1.2.1, x2.1.2.2.1, x2.1.2.2.2.1, IntKind.i64.wrap (x2.1.2.2.2.2 + 1)), x2.2)
            | .inr x2 =>
              match x2 with
              | .inl x3 => some (Sum.inr false)
              | .inr x3 => some (Sum.inr x3)) = some out ∧ ((out = .inl ((), ()) ∧ GoodFrom o L l i) ∨ (out = .inr false ∧ ¬ GoodFrom o L l i)) := by
        intro hup
        rcases scan with ⟨j', h1, h2, h3, h4⟩ | ⟨h1, x, h2, h3⟩
        · obtain ⟨out, k1, k2⟩ := ih' j' (.inr ⟨by omega, h2, by simpa using h3⟩)
          have h4' : h37_1 ((l, (posL o L j : Int), l, (l.length : Int), (i : Int)), (mAt l i, o, nx, b)) = _ := h4
          rw [h4']
          simp only [Option.bind_some]
          rw [i64w (by omega) (by omega)]
          refine ⟨out, k1, ?_⟩
          rcases k2 with ⟨e, h⟩ | ⟨e, h⟩
          · refine .inl ⟨e, fun m m1 m2 => ?_⟩
            rcases Nat.eq_or_lt_of_le m1 with rfl | m1
            · exact ⟨⟨j', h2, h3⟩, hup⟩
            · exact h m m1 m2
          · exact .inr ⟨e, fun h' => h (fun m m1 m2 => h' m (by omega) m2)⟩
        · have h2' : h37_1 ((l, (posL o L j : Int), l, (l.length : Int), (i : Int)), (mAt l i, o, nx, b)) = _ := h2
          rw [h2']
          simp only [Option.bind_some]
          have hno : ¬ GoodFrom o L l i := by
            intro h
            obtain ⟨⟨j', q1, q2⟩, q3⟩ := h i (Nat.le_refl _) (by omega)
            refine h1 ⟨j', ?_, q1, q2⟩
            rcases hj with ⟨_, rfl⟩ | ⟨q4, q5, q6⟩
            · omega
            · have := q3 q4
              rw [q6, q2] at this
              have e1 : (mrk o L j).1 = o + (j : Int) := rfl
              have e2 : (mrk o L j').1 = o + (j' : Int) := rfl
              omega
          rcases h3 with rfl | rfl
          · exact ⟨_, rfl, .inr ⟨rfl, hno⟩⟩
          · exact ⟨_, rfl, .inr ⟨rfl, hno⟩⟩
      rw [ct (by (simp only [ne_eq, Bool.and_eq_true, Bool.or_eq_true, decide_eq_true_eq, beq_iff_eq, bne_iff_ne, Bool.not_eq_true', decide_eq_false_iff_not, and_true, true_and]; omega)), ct (by (simp only [ne_eq, Bool.and_eq_true, Bool.or_eq_true, decide_eq_true_eq, beq_iff_eq, bne_iff_ne, Bool.not_eq_true', decide_eq_false_iff_not, and_true, true_and]; omega)), Int.toNat_natCast]
      by_cases h0 : i = 0
      · rw [cf (by (rw [Bool.eq_false_iff]; simp only [ne_eq, Bool.and_eq_true, Bool.or_eq_true, decide_eq_true_eq, beq_iff_eq, bne_iff_ne, Bool.not_eq_true', decide_eq_false_iff_not, and_true, true_and]; omega))]
        exact after (fun h => by omega)
      · rw [ct (by (simp only [ne_eq, Bool.and_eq_true, Bool.or_eq_true, decide_eq_true_eq, beq_iff_eq, bne_iff_ne, Bool.not_eq_true', decide_eq_false_iff_not, and_true, true_and]; omega)), i64w (n := (i : Int) - 1) (by omega) (by omega), ct (by (simp only [ne_eq, Bool.and_eq_true, Bool.or_eq_true, decide_eq_true_eq, beq_iff_eq, bne_iff_ne, Bool.not_eq_true', decide_eq_false_iff_not, and_true, true_and]; omega)), show ((i : Int) - 1).toNat = i - 1 from by omega]
        by_cases hc : (mAt l i).1 ≤ (mAt l (i - 1)).1
        · rw [ct (decide_eq_true (show (l.getD i (0, 0)).1 ≤ (l.getD (i - 1) (0, 0)).1 from hc))]
          refine ⟨_, rfl, .inr ⟨rfl, fun h => ?_⟩⟩
          have := (h i (Nat.le_refl _) (by omega)).2 (by omega)
          omega
        · rw [cf (decide_eq_false (show ¬ (l.getD i (0, 0)).1 ≤ (l.getD (i - 1) (0, 0)).1 from hc))]
          exact after (fun _ => by omega)
theorem index_Check_eq {b : List UInt8} {o : Int} {L : List RV} (hk : okL o L) (he : b = segB o L) (hb : b.length ≤ 65536) (nx : Int) (l : List Mark) (hl : l.length ≤ 65536) : ∃ r, g37 o nx b l = some r ∧ (r = true ↔ Good o L l) := by
  obtain ⟨out, k1, k2⟩ := ichk_loop hk he hb nx l hl l.length 0 0 fuel (by omega) (by rw [fuel_eq]; omega) (.inl ⟨rfl, rfl⟩)
  rw [posL_zero] at k1
  unfold g37 h37_0
  have k1' : loopN st37_0 fuel ((l, 0, l, (l.length : Int), 0), (o, nx, b)) = _ := k1
  rw [k1']
  simp only [Option.bind_some]
  rcases k2 with ⟨rfl, h⟩ | ⟨rfl, h⟩
  · exact ⟨true, rfl, by simp only [true_iff]; exact (goodFrom_iff o L l).1 h⟩
  · exact ⟨false, rfl, by simp only [Bool.false_eq_true, false_iff]; exact fun h2 => h ((goodFrom_iff o L l).2 h2)⟩
end Go.Proofs.Ytkkelbakadbbhaa.EVT
