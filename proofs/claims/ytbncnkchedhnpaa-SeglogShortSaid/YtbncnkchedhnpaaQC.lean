/- What the printed functions of package index, and of its reference, compute: finding. -/
import Derived.Test.YtbncnkchedhnpaaQB
import Derived.Test.YtbncnkchedhnpaaUI
set_option linter.unusedVariables false
set_option linter.unusedSimpArgs false
namespace Go.Proofs.Ytbncnkchedhnpaa.EVT
open Go Go.EV

def fndM (l : List (Int × Int)) (f : Int) : Nat → (Int × Int) × Bool
  | 0 => ((0, 0), false)
  | i + 1 => if (l.getD i (0, 0)).1 ≤ f then (l.getD i (0, 0), true) else fndM l f i
theorem find_loop (l : List (Int × Int)) (f : Int) (z : Int × Int) (hl : l.length ≤ 9223372036854775807) : ∀ (i k : Nat), i ≤ l.length → i < k →
    ∃ o, loopN st49_0 k ((l, f, (i : Int) - 1), z) = some o ∧ (match o with | .inl x => some ((0, 0), false) | .inr x => some x) = some (fndM l f i) := by
  intro i
  induction i with
  | zero =>
    intro k hi hk
    cases k with
    | zero => omega
    | succ k =>
      rw [loopN_s]; generalize loopN st49_0 k = L at *; dsimp only [st49_0]
      rw [cf (by (rw [Bool.eq_false_iff]; simp only [ne_eq, Bool.and_eq_true, Bool.or_eq_true, decide_eq_true_eq, beq_iff_eq, bne_iff_ne, Bool.not_eq_true', decide_eq_false_iff_not, and_true, true_and]; omega))]; exact ⟨_, rfl, rfl⟩
  | succ i ih =>
    intro k hi hk
    cases k with
    | zero => omega
    | succ k =>
      have ih' := ih k (by omega) (by omega)
      rw [loopN_s]; generalize loopN st49_0 k = L at ih' ⊢; dsimp only [st49_0]
      rw [show ((i + 1 : Nat) : Int) - 1 = (i : Int) from by omega, ct (by (simp only [ne_eq, Bool.and_eq_true, Bool.or_eq_true, decide_eq_true_eq, beq_iff_eq, bne_iff_ne, Bool.not_eq_true', decide_eq_false_iff_not, and_true, true_and]; omega)), ct (by (simp only [ne_eq, Bool.and_eq_true, Bool.or_eq_true, decide_eq_true_eq, beq_iff_eq, bne_iff_ne, Bool.not_eq_true', decide_eq_false_iff_not, and_true, true_and]; omega)), Int.toNat_natCast]
      unfold fndM
      by_cases h : (l.getD i (0, 0)).1 ≤ f
      · rw [ct (by (simp only [ne_eq, Bool.and_eq_true, Bool.or_eq_true, decide_eq_true_eq, beq_iff_eq, bne_iff_ne, Bool.not_eq_true', decide_eq_false_iff_not, and_true, true_and]; omega)), ct (by (simp only [ne_eq, Bool.and_eq_true, Bool.or_eq_true, decide_eq_true_eq, beq_iff_eq, bne_iff_ne, Bool.not_eq_true', decide_eq_false_iff_not, and_true, true_and]; omega)), if_pos h]; exact ⟨_, rfl, rfl⟩
      · rw [cf (by (rw [Bool.eq_false_iff]; simp only [ne_eq, Bool.and_eq_true, Bool.or_eq_true, decide_eq_true_eq, beq_iff_eq, bne_iff_ne, Bool.not_eq_true', decide_eq_false_iff_not, and_true, true_and]; omega)), if_neg h, i64w (by omega) (by omega)]; exact ih'
theorem Find_eq (l : List (Int × Int)) (f : Int) (hl : l.length ≤ 9223372036854775807) : g49 l f = some (fndM l f l.length) := by
  obtain ⟨o, k1, k2⟩ := find_loop l f (0, 0) hl l.length fuel (by omega) (by rw [fuel_eq]; omega)
  unfold g49 h49_0
  rw [i64w (by omega) (by omega), k1]
  simp only [Option.bind_some]
  exact k2
/-! ### rising marks -/
def risB (l : List (Int × Int)) : Nat → Nat → Bool
  | 0, _ => true
  | d + 1, i => if i < l.length then (if (l.getD i (0, 0)).1 ≤ (l.getD (i - 1) (0, 0)).1 then false else risB l d (i + 1)) else true
end Go.Proofs.Ytbncnkchedhnpaa.EVT
/- What the printed functions of package index, and of its reference, compute: marks of a segment. -/
set_option linter.unusedVariables false
set_option linter.unusedSimpArgs false
namespace Go.Proofs.Ytbncnkchedhnpaa.EVT
open Go Go.EV

abbrev Mark := Int × Int
/-- The position of the record with index i. -/
def posL (o : Int) (L : List RV) (i : Nat) : Nat := (segB o (L.take i)).length
def mrk (o : Int) (L : List RV) (i : Nat) : Mark := (o + (i : Int), (posL o L i : Int))
theorem posL_zero (o : Int) (L : List RV) : posL o L 0 = 0 := by simp [posL, segB]
theorem seg_split (o : Int) (L : List RV) (i : Nat) : segB o L = segB o (L.take i) ++ segB (o + ((L.take i).length : Nat)) (L.drop i) := by
  conv => lhs; rw [← List.take_append_drop i L]
  exact segB_app _ _ _
theorem posL_succ (o : Int) (L : List RV) (i : Nat) (h : i < L.length) : posL o L (i + 1) = posL o L i + (rec_ (o + (i : Int)) (L[i]).1 (L[i]).2.1 (L[i]).2.2).length := by
  unfold posL
  rw [List.take_succ_eq_append_getElem h, segB_app]
  simp [segB, Nat.min_eq_left (Nat.le_of_lt h)]
theorem posL_le (o : Int) (L : List RV) (i : Nat) : posL o L i ≤ (segB o L).length := by
  have := congrArg List.length (seg_split o L i)
  rw [List.length_append] at this
  unfold posL; omega
/-- At a record's position its record is read. -/
theorem seg_rd {b : List UInt8} {o : Int} {L : List RV} (hk : okL o L) (he : b = segB o L) (i : Nat) (h : i < L.length) :
    (posL o L i : Int) < (b.length : Int) ∧ rDec b (posL o L i : Int) = (o + (i : Int), (L[i]).1, (L[i]).2.1, (L[i]).2.2, (posL o L (i + 1) : Int), 0) := by
  have hd : L.drop i = L[i] :: L.drop (i + 1) := List.drop_eq_getElem_cons h
  have hs := seg_split o L i
  have hlen : (L.take i).length = i := by rw [List.length_take]; omega
  rw [hlen, hd] at hs
  have hk2 : okL (o + (i : Int)) (L[i] :: L.drop (i + 1)) := by
    have := (okL_app (L.take i) (L.drop i) o).1 (by rw [List.take_append_drop]; exact hk)
    rw [hlen, hd] at this; exact this.2
  have hp := posL_succ o L i h
  obtain ⟨⟨n, s, v⟩, hx⟩ : ∃ x, L[i] = x := ⟨_, rfl⟩
  rw [hx] at hs hk2 hp ⊢
  obtain ⟨g1, g2, g3⟩ := seg_head (b := b) (pre := segB o (L.take i)) hk2 (by rw [he, hs])
  refine ⟨g1, ?_⟩
  show rDec b ((segB o (L.take i)).length : Int) = _
  rw [g2, hp]
  simp [posL, List.length_append]
theorem pos_end {b : List UInt8} {o : Int} {L : List RV} (he : b = segB o L) (i : Nat) (h : L.length ≤ i) : ¬ (posL o L i : Int) < (b.length : Int) := by
  unfold posL; rw [List.take_of_length_le h, he]; omega
def allM (o : Int) (L : List RV) : List Mark := (List.range L.length).map (mrk o L)
theorem allM_len (o : Int) (L : List RV) : (allM o L).length = L.length := by simp [allM]
theorem allM_at (o : Int) (L : List RV) (i : Nat) (h : i < L.length) : (allM o L)[i]'(by rw [allM_len]; exact h) = mrk o L i := by simp [allM]
def bldM (e : Int) (o : Int) (L : List RV) (i : Nat) : List Mark := ((List.range i).filter (fun j : Nat => decide ((j : Int) % e = 0))).map (mrk o L)
theorem bldM_succ (e : Int) (o : Int) (L : List RV) (i : Nat) : bldM e o L (i + 1) = if (i : Int) % e = 0 then bldM e o L i ++ [mrk o L i] else bldM e o L i := by
  unfold bldM
  rw [List.range_succ, List.filter_append]
  by_cases h : (i : Int) % e = 0
  · rw [if_pos h]; simp [h]
  · rw [if_neg h]; simp [h]
theorem bldM_len (e : Int) (o : Int) (L : List RV) (i : Nat) : (bldM e o L i).length ≤ i := by
  unfold bldM
  rw [List.length_map]
  exact Nat.le_trans (List.length_filter_le _ _) (by simp)
theorem getD_at {α : Type} {l : List α} {j : Nat} (d : α) (h : j < l.length) : l.getD j d = l[j] := by simp [List.getD_eq_getElem?_getD, h]
/-! ### the records of a segment -/
theorem recs_loop {b : List UInt8} {o : Int} {L : List RV} (hk : okL o L) (he : b = segB o L) (hb : b.length ≤ 65536) (o' nx : Int) : ∀ (d j k : Nat) (acc : List Rec), j + d = L.length → acc.length + d ≤ 2147483647 → d < k →
    loopN st18_0 k ((posL o L j : Int), (acc, o', nx, b)) = some (.inl ((), acc ++ (recL o L).drop j)) := by
  intro d
  induction d with
  | zero =>
    intro j k acc hj ha hd
    cases k with
    | zero => omega
    | succ k =>
      have := pos_end he j (by omega)
      rw [loopN_s]; generalize loopN st18_0 k = LL at *; dsimp only [st18_0]
      rw [cf (by (rw [Bool.eq_false_iff]; simp only [ne_eq, Bool.and_eq_true, Bool.or_eq_true, decide_eq_true_eq, beq_iff_eq, bne_iff_ne, Bool.not_eq_true', decide_eq_false_iff_not, and_true, true_and]; omega)), List.drop_of_length_le (by rw [recL_len]; omega), List.append_nil]
  | succ d ih =>
    intro j k acc hj ha hd
    cases k with
    | zero => omega
    | succ k =>
      have ih' := fun acc a => ih (j + 1) k acc (by omega) a (by omega)
      obtain ⟨g1, g2⟩ := seg_rd hk he j (by omega)
      rw [loopN_s]; generalize loopN st18_0 k = LL at ih' ⊢; dsimp only [st18_0]
      rw [ct (by (simp only [ne_eq, Bool.and_eq_true, Bool.or_eq_true, decide_eq_true_eq, beq_iff_eq, bne_iff_ne, Bool.not_eq_true', decide_eq_false_iff_not, and_true, true_and]; omega)), ref_Decode_eq b (by omega), g2]
      simp only [Option.bind_some]
      have hdr : (recL o L).drop j = (o + (j : Int), (L[j]).1, (L[j]).2.1, (L[j]).2.2) :: (recL o L).drop (j + 1) := by
        rw [List.drop_eq_getElem_cons (by rw [recL_len]; omega), recL_at L o j (by omega)]
      rw [cf (b := (0 : Int) != 0) rfl, ct (by (simp only [ne_eq, Bool.and_eq_true, Bool.or_eq_true, decide_eq_true_eq, beq_iff_eq, bne_iff_ne, Bool.not_eq_true', decide_eq_false_iff_not, and_true, true_and]; omega)), ih' _ (by simp; omega), hdr]
      simp
theorem ref_Records_eq {b : List UInt8} {o : Int} {L : List RV} (hk : okL o L) (he : b = segB o L) (hb : b.length ≤ 65536) (o' nx : Int) : g18 o' nx b = some (recL o L) := by
  have hL := segB_len L o hk
  rw [← he] at hL
  have := recs_loop hk he hb o' nx L.length 0 fuel [] (by omega) (by simp; omega) (by rw [fuel_eq]; omega)
  rw [posL_zero] at this
  unfold g18 h18_0
  have this' : loopN st18_0 fuel (0, ([], o', nx, b)) = _ := this
  rw [this']
  simp
/-! ### building -/
theorem build_loop {b : List UInt8} {o : Int} {L : List RV} (hk : okL o L) (he : b = segB o L) (hb : b.length ≤ 65536) (e nx : Int) (h1 : 1 ≤ e) : ∀ (d j k : Nat), j + d = L.length → d < k →
    loopN st33_0 k ((e, (posL o L j : Int)), (bldM e o L j, o, nx, b)) = some (.inl ((), bldM e o L L.length)) := by
  have hL := segB_len L o hk
  rw [← he] at hL
  intro d
  induction d with
  | zero =>
    intro j k hj hd
    cases k with
    | zero => omega
    | succ k =>
      have := pos_end he j (by omega)
      rw [loopN_s]; generalize loopN st33_0 k = LL at *; dsimp only [st33_0]
      rw [cf (by (rw [Bool.eq_false_iff]; simp only [ne_eq, Bool.and_eq_true, Bool.or_eq_true, decide_eq_true_eq, beq_iff_eq, bne_iff_ne, Bool.not_eq_true', decide_eq_false_iff_not, and_true, true_and]; omega)), show j = L.length from by omega]
  | succ d ih =>
    intro j k hj hd
    cases k with
    | zero => omega
    | succ k =>
      have ih' := ih (j + 1) k (by omega) (by omega)
      obtain ⟨g1, g2⟩ := seg_rd hk he j (by omega)
      have hbl := bldM_len e o L j
      rw [loopN_s]; generalize loopN st33_0 k = LL at ih' ⊢; dsimp only [st33_0]
      rw [ct (by (simp only [ne_eq, Bool.and_eq_true, Bool.or_eq_true, decide_eq_true_eq, beq_iff_eq, bne_iff_ne, Bool.not_eq_true', decide_eq_false_iff_not, and_true, true_and]; omega)), Decode_eq b (by omega), g2]
      simp only [Option.bind_some]
      rw [cf (b := (0 : Int) != 0) rfl, ct (by (simp only [ne_eq, Bool.and_eq_true, Bool.or_eq_true, decide_eq_true_eq, beq_iff_eq, bne_iff_ne, Bool.not_eq_true', decide_eq_false_iff_not, and_true, true_and]; omega)), show o + (j : Int) - o = (j : Int) from by omega, i64w (by omega) (by omega), tmod_nn (by omega)]
      rw [bldM_succ] at ih'
      by_cases hm : (j : Int) % e = 0
      · rw [if_pos hm] at ih'
        rw [ct (by (simp only [ne_eq, Bool.and_eq_true, Bool.or_eq_true, decide_eq_true_eq, beq_iff_eq, bne_iff_ne, Bool.not_eq_true', decide_eq_false_iff_not, and_true, true_and]; omega)), ct (by (simp only [ne_eq, Bool.and_eq_true, Bool.or_eq_true, decide_eq_true_eq, beq_iff_eq, bne_iff_ne, Bool.not_eq_true', decide_eq_false_iff_not, and_true, true_and]; omega))]; exact ih'
      · rw [if_neg hm] at ih'
        rw [cf (by (rw [Bool.eq_false_iff]; simp only [ne_eq, Bool.and_eq_true, Bool.or_eq_true, decide_eq_true_eq, beq_iff_eq, bne_iff_ne, Bool.not_eq_true', decide_eq_false_iff_not, and_true, true_and]; omega))]; exact ih'
def evr (a : Int) : Int := if 1 > a then 1 else a
theorem evr_one (a : Int) : 1 ≤ evr a := by unfold evr; split <;> omega
theorem Build_eq {b : List UInt8} {o : Int} {L : List RV} (hk : okL o L) (he : b = segB o L) (hb : b.length ≤ 65536) (nx a : Int) : g33 o nx b a = some (bldM (evr a) o L L.length) := by
  have hL := segB_len L o hk
  rw [← he] at hL
  have := build_loop hk he hb (evr a) nx (evr_one a) L.length 0 fuel (by omega) (by rw [fuel_eq]; omega)
  rw [posL_zero] at this
  unfold g33 h33_0
  have this' : loopN st33_0 fuel ((evr a, 0), ([], o, nx, b)) = _ := this
  rw [if_pos rfl]
  show Option.bind (loopN st33_0 fuel ((evr a, 0), ([], o, nx, b))) _ = _
  rw [this']
  simp
/-! ### the reference's check of a segment -/
theorem ref_ck_loop (base nx : Int) (b : List UInt8) (hb0 : 0 ≤ base) (hb1 : base ≤ 1099511627776) (hlen : b.length ≤ 65536) : ∀ (d : Nat) (p i : Int) (k : Nat), 0 ≤ i → i ≤ p → p ≤ (b.length : Int) → (b.length : Int) - p < d → d ≤ k →
    ∃ o, loopN st17_0 k ((p, i), (base, nx, b)) = some o ∧ (match o with | .inl x => cond (x.2.2.1 != IntKind.i64.wrap (x.2.1 + x.1)) (some 1) (some 0) | .inr x => some x) = some (ckS b nx d (base + i) p) := by
  intro d
  induction d with
  | zero => intro p i k h0 h1 h2; omega
  | succ d ih =>
    intro p i k hi0 hip h1 h2 hk
    cases k with
    | zero => omega
    | succ k =>
      have ih' := fun p i a b c e => ih p i k a b c e (by omega)
      rw [loopN_s]; generalize loopN st17_0 k = L at ih' ⊢; dsimp only [st17_0]
      unfold ckS
      by_cases hp : p < (b.length : Int)
      · rw [ct (by (simp only [ne_eq, Bool.and_eq_true, Bool.or_eq_true, decide_eq_true_eq, beq_iff_eq, bne_iff_ne, Bool.not_eq_true', decide_eq_false_iff_not, and_true, true_and]; omega)), ref_Decode_eq b (by omega) p, if_pos hp]
        simp only [Option.bind_some]
        by_cases he : (rDec b p).2.2.2.2.2 = 0
        · obtain ⟨k1, k2, k3, k4, k5⟩ := rDec_next trivial he
          rw [if_pos he, cf (by (rw [Bool.eq_false_iff]; simp only [ne_eq, Bool.and_eq_true, Bool.or_eq_true, decide_eq_true_eq, beq_iff_eq, bne_iff_ne, Bool.not_eq_true', decide_eq_false_iff_not, and_true, true_and]; omega)), i64w (n := base + i) (by omega) (by omega), i64w (n := i + 1) (by omega) (by omega)]
          by_cases hn : (rDec b p).1 = base + i
          · rw [if_pos hn, cf (by (rw [Bool.eq_false_iff]; simp only [ne_eq, Bool.and_eq_true, Bool.or_eq_true, decide_eq_true_eq, beq_iff_eq, bne_iff_ne, Bool.not_eq_true', decide_eq_false_iff_not, and_true, true_and]; omega)), Int.add_assoc]
            exact ih' _ _ (by omega) (by omega) k3 (by omega)
          · rw [if_neg hn, ct (by (simp only [ne_eq, Bool.and_eq_true, Bool.or_eq_true, decide_eq_true_eq, beq_iff_eq, bne_iff_ne, Bool.not_eq_true', decide_eq_false_iff_not, and_true, true_and]; omega))]; exact ⟨_, rfl, rfl⟩
        · rw [if_neg he, ct (by (simp only [ne_eq, Bool.and_eq_true, Bool.or_eq_true, decide_eq_true_eq, beq_iff_eq, bne_iff_ne, Bool.not_eq_true', decide_eq_false_iff_not, and_true, true_and]; omega))]; exact ⟨_, rfl, rfl⟩
      · rw [cf (by (rw [Bool.eq_false_iff]; simp only [ne_eq, Bool.and_eq_true, Bool.or_eq_true, decide_eq_true_eq, beq_iff_eq, bne_iff_ne, Bool.not_eq_true', decide_eq_false_iff_not, and_true, true_and]; omega)), if_neg hp]
        refine ⟨_, rfl, ?_⟩
        show cond (nx != IntKind.i64.wrap (base + i)) (some 1) (some 0) = _
        rw [i64w (n := base + i) (by omega) (by omega)]
        by_cases hn : nx = base + i
        · rw [if_pos hn, cf (by (rw [Bool.eq_false_iff]; simp only [ne_eq, Bool.and_eq_true, Bool.or_eq_true, decide_eq_true_eq, beq_iff_eq, bne_iff_ne, Bool.not_eq_true', decide_eq_false_iff_not, and_true, true_and]; omega))]
        · rw [if_neg hn, ct (by (simp only [ne_eq, Bool.and_eq_true, Bool.or_eq_true, decide_eq_true_eq, beq_iff_eq, bne_iff_ne, Bool.not_eq_true', decide_eq_false_iff_not, and_true, true_and]; omega))]
theorem ref_seg_Check_eq (base nx : Int) (b : List UInt8) : g17 base nx b = some (sChk base nx b) := by
  unfold g17 sChk
  by_cases h0 : base < 0
  · rw [ct (by (simp only [ne_eq, Bool.and_eq_true, Bool.or_eq_true, decide_eq_true_eq, beq_iff_eq, bne_iff_ne, Bool.not_eq_true', decide_eq_false_iff_not, and_true, true_and]; omega)), if_pos h0]
  · by_cases h1 : base > 1099511627776
    · rw [cf (by (rw [Bool.eq_false_iff]; simp only [ne_eq, Bool.and_eq_true, Bool.or_eq_true, decide_eq_true_eq, beq_iff_eq, bne_iff_ne, Bool.not_eq_true', decide_eq_false_iff_not, and_true, true_and]; omega)), ct (by (simp only [ne_eq, Bool.and_eq_true, Bool.or_eq_true, decide_eq_true_eq, beq_iff_eq, bne_iff_ne, Bool.not_eq_true', decide_eq_false_iff_not, and_true, true_and]; omega)), if_neg h0, if_pos h1]
    · by_cases h2 : (b.length : Int) > 65536
      · rw [cf (by (rw [Bool.eq_false_iff]; simp only [ne_eq, Bool.and_eq_true, Bool.or_eq_true, decide_eq_true_eq, beq_iff_eq, bne_iff_ne, Bool.not_eq_true', decide_eq_false_iff_not, and_true, true_and]; omega)), cf (by (rw [Bool.eq_false_iff]; simp only [ne_eq, Bool.and_eq_true, Bool.or_eq_true, decide_eq_true_eq, beq_iff_eq, bne_iff_ne, Bool.not_eq_true', decide_eq_false_iff_not, and_true, true_and]; omega)), ct (by (simp only [ne_eq, Bool.and_eq_true, Bool.or_eq_true, decide_eq_true_eq, beq_iff_eq, bne_iff_ne, Bool.not_eq_true', decide_eq_false_iff_not, and_true, true_and]; omega)), if_neg h0, if_neg h1, if_pos h2]
      · rw [cf (by (rw [Bool.eq_false_iff]; simp only [ne_eq, Bool.and_eq_true, Bool.or_eq_true, decide_eq_true_eq, beq_iff_eq, bne_iff_ne, Bool.not_eq_true', decide_eq_false_iff_not, and_true, true_and]; omega)), cf (by (rw [Bool.eq_false_iff]; simp only [ne_eq, Bool.and_eq_true, Bool.or_eq_true, decide_eq_true_eq, beq_iff_eq, bne_iff_ne, Bool.not_eq_true', decide_eq_false_iff_not, and_true, true_and]; omega)), cf (by (rw [Bool.eq_false_iff]; simp only [ne_eq, Bool.and_eq_true, Bool.or_eq_true, decide_eq_true_eq, beq_iff_eq, bne_iff_ne, Bool.not_eq_true', decide_eq_false_iff_not, and_true, true_and]; omega)), if_neg h0, if_neg h1, if_neg h2]
        obtain ⟨o, k1, k2⟩ := ref_ck_loop base nx b (by omega) (by omega) (by omega) (b.length + 1) 0 0 fuel (by omega) (by omega) (by omega) (by omega) (fuel_gt (by omega))
        unfold h17_0
        rw [k1]
        simp only [Option.bind_some]
        rw [Int.add_zero] at k2
        exact k2
end Go.Proofs.Ytbncnkchedhnpaa.EVT
/- What the printed functions of package index, and of its reference, compute: which marks are a segment's. -/
set_option linter.unusedVariables false
set_option linter.unusedSimpArgs false
namespace Go.Proofs.Ytbncnkchedhnpaa.EVT
open Go Go.EV

def mAt (l : List Mark) (i : Nat) : Mark := l.getD i (0, 0)
def Mine (o : Int) (L : List RV) (m : Mark) : Prop := ∃ j, j < L.length ∧ m = mrk o L j
def Rise (l : List Mark) (i : Nat) : Prop := ∀ m, i ≤ m + 1 → m + 1 < l.length → (mAt l m).1 < (mAt l (m + 1)).1
def Good (o : Int) (L : List RV) (l : List Mark) : Prop := (∀ m, m < l.length → Mine o L (mAt l m)) ∧ Rise l 1
theorem risB_iff (l : List Mark) : ∀ (d i : Nat), 1 ≤ i → l.length ≤ i + d → (risB l d i = true ↔ Rise l i) := by
  intro d
  induction d with
  | zero =>
    intro i h1 hi
    simp only [risB, true_iff]
    intro m h2 h3; omega
  | succ d ih =>
    intro i h1 hi
    unfold risB
    by_cases hp : i < l.length
    · rw [if_pos hp]
      by_cases hc : (l.getD i (0, 0)).1 ≤ (l.getD (i - 1) (0, 0)).1
      · rw [if_pos hc]
        simp only [Bool.false_eq_true, false_iff]
        intro h
        have := h (i - 1) (by omega) (by omega)
        rw [show i - 1 + 1 = i from by omega] at this
        unfold mAt at this
        omega
      · rw [if_neg hc, ih (i + 1) (by omega) (by omega)]
        constructor
        · intro h m h2 h3
          rcases Nat.lt_or_ge (m + 1) (i + 1) with h4 | h4
          · have e : m = i - 1 := by omega
            subst e
            rw [show i - 1 + 1 = i from by omega]
            unfold mAt; omega
          · exact h m h4 h3
        · intro h m h2 h3; exact h m (by omega) h3
    · rw [if_neg hp]
      simp only [true_iff]
      intro m h2 h3; omega
theorem mark_eq {x y : Mark} : (x.1 == y.1 && (x.2 == y.2 && true)) = true ↔ x = y := by
  cases x; cases y; simp
theorem all_at (o : Int) (L : List RV) (j : Nat) (h : j < L.length) : (allM o L).getD j (0, 0) = mrk o L j := by rw [getD_at _ (by rw [allM_len]; omega), allM_at o L j h]
/-- All marks from i on are the segment's, and each lies above the one before it. -/
def GoodFrom (o : Int) (L : List RV) (l : List Mark) (i : Nat) : Prop := ∀ m, i ≤ m → m < l.length → Mine o L (mAt l m) ∧ (0 < m → (mAt l (m - 1)).1 < (mAt l m).1)
theorem goodFrom_iff (o : Int) (L : List RV) (l : List Mark) : GoodFrom o L l 0 ↔ Good o L l := by
  constructor
  · intro h
    refine ⟨fun i hi => (h i (Nat.zero_le _) hi).1, fun m _ hm => ?_⟩
    have := (h (m + 1) (Nat.zero_le _) hm).2 (by omega)
    simpa using this
  · intro h m _ hm
    refine ⟨h.1 m hm, fun h0 => ?_⟩
    have := h.2 (m - 1) (by omega) (by omega)
    have e : m - 1 + 1 = m := by omega
    simpa [e] using this
end Go.Proofs.Ytbncnkchedhnpaa.EVT
