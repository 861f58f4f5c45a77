/- What the printed functions of package index, and of its reference, compute: reading from an offset, and the steps it takes. -/
import Derived.Test.YtbncnkchedhnpaaQC
set_option linter.unusedVariables false
set_option linter.unusedSimpArgs false
namespace Go.Proofs.Ytbncnkchedhnpaa.EVT
open Go Go.EV

theorem fndM_succ (l : List Mark) (f : Int) (i : Nat) : fndM l f (i + 1) = if (mAt l i).1 ≤ f then (mAt l i, true) else fndM l f i := rfl
/-- The record from which a reading starts. -/
theorem fndM_cases (l : List Mark) (f : Int) : ∀ i, i ≤ l.length → (fndM l f i = ((0, 0), false) ∧ ∀ m, m < i → ¬ (mAt l m).1 ≤ f) ∨ (∃ q, q < i ∧ fndM l f i = (mAt l q, true) ∧ (mAt l q).1 ≤ f ∧ ∀ m, q < m → m < i → ¬ (mAt l m).1 ≤ f)
  | 0, _ => .inl ⟨rfl, fun m h => by omega⟩
  | i + 1, h => by
    rw [fndM_succ]
    by_cases hc : (mAt l i).1 ≤ f
    · rw [if_pos hc]
      exact .inr ⟨i, by omega, rfl, hc, fun m h1 h2 => by omega⟩
    · rw [if_neg hc]
      rcases fndM_cases l f i (by omega) with ⟨h1, h2⟩ | ⟨q, h1, h2, h3, h4⟩
      · refine .inl ⟨h1, fun m hm => ?_⟩
        rcases Nat.lt_or_ge m i with h5 | h5
        · exact h2 m h5
        · have : m = i := by omega
          subst this; exact hc
      · refine .inr ⟨q, by omega, h2, h3, fun m h5 h6 => ?_⟩
        rcases Nat.lt_or_ge m i with h7 | h7
        · exact h4 m h5 h7
        · have : m = i := by omega
          subst this; exact hc
theorem find_good {o : Int} {L : List RV} {l : List Mark} (h : Good o L l) (f : Int) : ∃ J, J ≤ L.length ∧ (fndM l f l.length).1.2 = (posL o L J : Int) ∧ (J = 0 ∨ o + (J : Int) ≤ f) ∧ (((fndM l f l.length).2 = true ∧ (fndM l f l.length).1.1 = o + (J : Int)) ∨ ((fndM l f l.length).2 = false ∧ J = 0)) := by
  rcases fndM_cases l f l.length (Nat.le_refl _) with ⟨h1, _⟩ | ⟨q, h1, h2, h3, _⟩
  · rw [h1]; exact ⟨0, by omega, by rw [posL_zero]; rfl, .inl rfl, .inr ⟨rfl, rfl⟩⟩
  · obtain ⟨j, hj, he⟩ := h.1 q h1
    rw [h2, he]
    rw [he] at h3
    exact ⟨j, by omega, rfl, .inr h3, .inl ⟨rfl, rfl⟩⟩
/-! ### reading -/
def rdS (f n : Int) : List Rec → List Rec → List Rec
  | [], acc => acc
  | x :: r, acc => if (acc.length : Int) < n then (if x.1 ≥ f then rdS f n r (acc ++ [x]) else rdS f n r acc) else acc
def rdR (f n : Int) : List Rec → List Rec → List Rec
  | [], acc => acc
  | x :: r, acc => if x.1 ≥ f then (if (acc.length : Int) < n then rdR f n r (acc ++ [x]) else rdR f n r acc) else rdR f n r acc
theorem rdR_full (f n : Int) : ∀ (l acc : List Rec), ¬ (acc.length : Int) < n → rdR f n l acc = acc
  | [], acc, _ => rfl
  | x :: r, acc, h => by
    unfold rdR
    by_cases hx : x.1 ≥ f
    · rw [if_pos hx, if_neg h]; exact rdR_full f n r acc h
    · rw [if_neg hx]; exact rdR_full f n r acc h
theorem rdS_eq (f n : Int) : ∀ (l acc : List Rec), rdS f n l acc = rdR f n l acc
  | [], acc => rfl
  | x :: r, acc => by
    by_cases h : (acc.length : Int) < n
    · unfold rdS rdR
      rw [if_pos h, if_pos h, rdS_eq f n r, rdS_eq f n r]
    · rw [rdR_full f n _ acc h]
      unfold rdS; rw [if_neg h]
theorem recL_drop {o : Int} {L : List RV} (j : Nat) (h : j < L.length) : (recL o L).drop j = (o + (j : Int), (L[j]).1, (L[j]).2.1, (L[j]).2.2) :: (recL o L).drop (j + 1) := by
  rw [List.drop_eq_getElem_cons (by rw [recL_len]; omega), recL_at L o j (by omega)]
theorem rdR_skip {o : Int} {L : List RV} (f n : Int) (acc : List Rec) : ∀ J, J ≤ L.length → (J = 0 ∨ o + (J : Int) ≤ f) → rdR f n ((recL o L).drop J) acc = rdR f n (recL o L) acc
  | 0, _, _ => rfl
  | J + 1, h, hf => by
    rw [← rdR_skip f n acc J (by omega) (by omega), recL_drop J (by omega)]
    conv => rhs; unfold rdR
    rw [if_neg (by dsimp only; omega)]
theorem read_loop {b : List UInt8} {o : Int} {L : List RV} (hk : okL o L) (he : b = segB o L) (hb : b.length ≤ 65536) (nx f n : Int) : ∀ (d j k : Nat) (acc : List Rec), j + d = L.length → acc.length + d ≤ 2147483647 → d < k →
    loopN st32_0 k ((f, n, (posL o L j : Int)), (acc, o, nx, b)) = some (.inl ((), rdS f n ((recL o L).drop j) acc)) := by
  intro d
  induction d with
  | zero =>
    intro j k acc hj ha hd
    cases k with
    | zero => omega
    | succ k =>
      have := pos_end he j (by omega)
      rw [loopN_s]; generalize loopN st32_0 k = LL at *; dsimp only [st32_0]
      rw [cf (by (rw [Bool.eq_false_iff]; simp only [ne_eq, Bool.and_eq_true, Bool.or_eq_true, decide_eq_true_eq, beq_iff_eq, bne_iff_ne, Bool.not_eq_true', decide_eq_false_iff_not, and_true, true_and]; omega)), List.drop_of_length_le (by rw [recL_len]; omega)]; rfl
  | succ d ih =>
    intro j k acc hj ha hd
    cases k with
    | zero => omega
    | succ k =>
      have ih' := fun acc a => ih (j + 1) k acc (by omega) a (by omega)
      obtain ⟨g1, g2⟩ := seg_rd hk he j (by omega)
      rw [loopN_s]; generalize loopN st32_0 k = LL at ih' ⊢; dsimp only [st32_0]
      rw [ct (by (simp only [ne_eq, Bool.and_eq_true, Bool.or_eq_true, decide_eq_true_eq, beq_iff_eq, bne_iff_ne, Bool.not_eq_true', decide_eq_false_iff_not, and_true, true_and]; omega)), recL_drop j (by omega)]
      unfold rdS
      by_cases hn : (acc.length : Int) < n
      · rw [ct (decide_eq_true (show ((List.length acc : Nat) : Int) < n from hn)), if_pos hn, Decode_eq b (by omega), g2]
        simp only [Option.bind_some]
        rw [cf (b := (0 : Int) != 0) rfl]
        by_cases hf : o + (j : Int) ≥ f
        · rw [ct (by (simp only [ne_eq, Bool.and_eq_true, Bool.or_eq_true, decide_eq_true_eq, beq_iff_eq, bne_iff_ne, Bool.not_eq_true', decide_eq_false_iff_not, and_true, true_and]; omega)), ct (decide_eq_true (show List.length acc + 1 ≤ 2147483647 by omega)), if_pos hf]
          exact ih' _ (by simp; omega)
        · rw [cf (by (rw [Bool.eq_false_iff]; simp only [ne_eq, Bool.and_eq_true, Bool.or_eq_true, decide_eq_true_eq, beq_iff_eq, bne_iff_ne, Bool.not_eq_true', decide_eq_false_iff_not, and_true, true_and]; omega)), if_neg hf]
          exact ih' _ (by omega)
      · rw [cf (decide_eq_false (show ¬ ((List.length acc : Nat) : Int) < n from hn)), if_neg hn]
theorem Read_eq {b : List UInt8} {o : Int} {L : List RV} (hk : okL o L) (he : b = segB o L) (hb : b.length ≤ 65536) (nx f n : Int) {l : List Mark} (hl : l.length ≤ 65536) (hg : Good o L l) : g32 o nx b l f n = some (rdR f n (recL o L) []) := by
  have hL := segB_len L o hk
  rw [← he] at hL
  obtain ⟨J, h1, h2, h3, _⟩ := find_good hg f
  have := read_loop hk he hb nx f n (L.length - J) J fuel [] (by omega) (by simp; omega) (by rw [fuel_eq]; omega)
  unfold g32 h32_0
  rw [Find_eq l f (by omega)]
  simp only [Option.bind_some]
  rw [h2, this]
  simp only [Option.bind_some]
  rw [rdS_eq, rdR_skip f n [] J h1 h3]
/-! ### equal lists of records -/
theorem sameR_loop (l : List Rec) (hl : l.length ≤ 9223372036854775806) : ∀ (d j k : Nat), j + d = l.length → d < k → loopN st15_0 k ((l, l, (j : Int)), ()) = some (.inl ((), ())) := by
  intro d
  induction d with
  | zero =>
    intro j k hj hd
    cases k with
    | zero => omega
    | succ k =>
      rw [loopN_s]; generalize loopN st15_0 k = LL at *; dsimp only [st15_0]
      rw [cf (by (rw [Bool.eq_false_iff]; simp only [ne_eq, Bool.and_eq_true, Bool.or_eq_true, decide_eq_true_eq, beq_iff_eq, bne_iff_ne, Bool.not_eq_true', decide_eq_false_iff_not, and_true, true_and]; omega))]
  | succ d ih =>
    intro j k hj hd
    cases k with
    | zero => omega
    | succ k =>
      have ih' := ih (j + 1) k (by omega) (by omega)
      rw [loopN_s]; generalize loopN st15_0 k = LL at ih' ⊢; dsimp only [st15_0]
      rw [ct (by (simp only [ne_eq, Bool.and_eq_true, Bool.or_eq_true, decide_eq_true_eq, beq_iff_eq, bne_iff_ne, Bool.not_eq_true', decide_eq_false_iff_not, and_true, true_and]; omega)), ct (by (simp only [ne_eq, Bool.and_eq_true, Bool.or_eq_true, decide_eq_true_eq, beq_iff_eq, bne_iff_ne, Bool.not_eq_true', decide_eq_false_iff_not, and_true, true_and]; omega)), ct (by (simp only [ne_eq, Bool.and_eq_true, Bool.or_eq_true, decide_eq_true_eq, beq_iff_eq, bne_iff_ne, Bool.not_eq_true', decide_eq_false_iff_not, and_true, true_and]; omega)), cf (by simp), i64w (by omega) (by omega)]
      exact ih'
theorem SameR_eq (l : List Rec) (hl : l.length ≤ 9223372036854775806) : g15 l l = some true := by
  have := sameR_loop l hl l.length 0 fuel (by omega) (by rw [fuel_eq]; omega)
  unfold g15 h15_0
  have this' : loopN st15_0 fuel ((l, l, 0), ()) = _ := this
  rw [cf (by simp), this']
  rfl
theorem rdR_len (f n : Int) : ∀ (l acc : List Rec), (rdR f n l acc).length ≤ acc.length + l.length
  | [], acc => by simp [rdR]
  | x :: r, acc => by
    unfold rdR
    have h1 := rdR_len f n r (acc ++ [x])
    have h2 := rdR_len f n r acc
    simp only [List.length_append, List.length_cons, List.length_nil] at h1
    simp only [List.length_cons]
    split
    · split <;> omega
    · omega
end Go.Proofs.Ytbncnkchedhnpaa.EVT
/- Steps to an offset; the marks that Build makes; what is read with them. -/
set_option linter.unusedVariables false
set_option linter.unusedSimpArgs false
namespace Go.Proofs.Ytbncnkchedhnpaa.EVT
open Go Go.EV

/-! ### the marks that Build makes -/
def idx (e : Int) (n : Nat) : List Nat := (List.range n).filter (fun j : Nat => decide ((j : Int) % e = 0))
theorem bld_idx (e o : Int) (L : List RV) (n : Nat) : bldM e o L n = (idx e n).map (mrk o L) := rfl
theorem idx_lt {e : Int} {n : Nat} {m : Nat} (h : m < (idx e n).length) : (idx e n)[m] < n := by
  have := List.getElem_mem h
  unfold idx at this
  rw [List.mem_filter] at this
  exact List.mem_range.1 this.1
theorem idx_up (e : Int) (n : Nat) : (idx e n).Pairwise (· < ·) := List.Pairwise.filter _ List.pairwise_lt_range
theorem bld_at {e o : Int} {L : List RV} {n : Nat} {m : Nat} (h : m < (idx e n).length) : mAt (bldM e o L n) m = mrk o L ((idx e n)[m]) := by
  unfold mAt
  rw [bld_idx, getD_at _ (by simpa using h)]
  simp
theorem bld_len (e o : Int) (L : List RV) (n : Nat) : (bldM e o L n).length = (idx e n).length := by rw [bld_idx, List.length_map]
theorem bld_good (e o : Int) (L : List RV) : Good o L (bldM e o L L.length) := by
  refine ⟨fun m hm => ?_, fun m _ hm => ?_⟩
  · rw [bld_len] at hm
    exact ⟨_, idx_lt hm, bld_at hm⟩
  · rw [bld_len] at hm
    rw [bld_at (by omega), bld_at hm]
    have := (List.pairwise_iff_getElem.1 (idx_up e L.length)) m (m + 1) (by omega) hm (by omega)
    unfold mrk
    dsimp only
    omega
theorem bld_find (e o : Int) (L : List RV) (he : 1 ≤ e) (f : Int) : ∃ J, J ≤ L.length ∧ (fndM (bldM e o L L.length) f (bldM e o L L.length).length).1.2 = (posL o L J : Int) ∧ (o ≤ f → f < o + (L.length : Int) → o + (J : Int) ≤ f ∧ f - (o + (J : Int)) < e) := by
  have key : o ≤ f → f < o + (L.length : Int) → ∃ q, ∃ hq : q < (idx e L.length).length, o + (((idx e L.length)[q] : Nat) : Int) ≤ f ∧ f - (o + (((idx e L.length)[q] : Nat) : Int)) < e := by
    intro h0 h1
    have d1 := Int.emod_nonneg (f - o) (by omega : e ≠ 0)
    have d2 := Int.emod_lt_of_pos (f - o) (by omega : 0 < e)
    have d3 : (f - o - (f - o) % e) % e = 0 := by rw [Int.sub_emod, Int.emod_emod_of_dvd _ (Int.dvd_refl e), Int.sub_self, Int.zero_emod]
    have d4 : (f - o) % e ≤ f - o := by
      have := Int.mul_ediv_add_emod (f - o) e
      have h2 : 0 ≤ e * ((f - o) / e) := Int.mul_nonneg (by omega) (Int.ediv_nonneg (by omega) (by omega))
      omega
    have hm : (f - o - (f - o) % e).toNat ∈ idx e L.length := by
      unfold idx
      rw [List.mem_filter]
      refine ⟨List.mem_range.2 (by omega), ?_⟩
      rw [Int.toNat_of_nonneg (by omega)]
      exact decide_eq_true d3
    obtain ⟨q, hq, hqe⟩ := List.mem_iff_getElem.1 hm
    exact ⟨q, hq, by rw [hqe]; omega, by rw [hqe]; omega⟩
  rcases fndM_cases (bldM e o L L.length) f _ (Nat.le_refl _) with ⟨h1, h2⟩ | ⟨q, h1, h2, h3, h4⟩
  · refine ⟨0, by omega, by rw [h1, posL_zero]; rfl, fun c0 c1 => ?_⟩
    obtain ⟨q', hq, k1, k2⟩ := key c0 c1
    have := h2 q' (by rw [bld_len]; exact hq)
    rw [bld_at hq] at this
    exact absurd k1 this
  · rw [bld_len] at h1
    refine ⟨(idx e L.length)[q], by have := idx_lt h1; omega, by rw [h2, bld_at h1]; rfl, fun c0 c1 => ?_⟩
    rw [bld_at h1] at h3
    have h3' : o + (((idx e L.length)[q] : Nat) : Int) ≤ f := h3
    obtain ⟨q', hq, k1, k2⟩ := key c0 c1
    have hle : (idx e L.length)[q'] ≤ (idx e L.length)[q] := by
      rcases Nat.lt_trichotomy q' q with h | h | h
      · exact Nat.le_of_lt ((List.pairwise_iff_getElem.1 (idx_up e L.length)) q' q hq h1 h)
      · subst h; exact Nat.le_refl _
      · have := h4 q' h (by rw [bld_len]; exact hq)
        rw [bld_at hq] at this
        exact absurd k1 this
    omega
/-! ### what is read -/
theorem rdR_take (f n : Int) : ∀ (R acc : List Rec), (∀ x ∈ R, x.1 ≥ f) → rdR f n R acc = acc ++ R.take (n - (acc.length : Int)).toNat
  | [], acc, _ => by simp [rdR]
  | x :: r, acc, h => by
    unfold rdR
    rw [if_pos (h x (by simp))]
    by_cases hn : (acc.length : Int) < n
    · rw [if_pos hn, rdR_take f n r _ (fun y hy => h y (by simp [hy]))]
      rw [show (n - (acc.length : Int)).toNat = (n - ((acc ++ [x]).length : Int)).toNat + 1 from by simp; omega]
      simp
    · rw [if_neg hn, rdR_full f n r acc hn, show (n - (acc.length : Int)).toNat = 0 from by omega]
      simp
theorem rdR_all (f n o : Int) (L : List RV) : ∃ J, J ≤ L.length ∧ (J = 0 ∨ o + (J : Int) ≤ f) ∧ (J < L.length → f ≤ o + (J : Int)) ∧ rdR f n (recL o L) [] = ((recL o L).drop J).take n.toNat := by
  refine ⟨min L.length (f - o).toNat, by omega, by omega, by omega, ?_⟩
  rw [← rdR_skip f n [] (min L.length (f - o).toNat) (by omega) (by omega), rdR_take]
  · simp
  · intro x hx
    obtain ⟨i, hi, rfl⟩ := List.mem_iff_getElem.1 hx
    rw [List.length_drop, recL_len] at hi
    rw [List.getElem_drop, recL_at L o _ (by omega)]
    show o + _ ≥ f
    omega
end Go.Proofs.Ytbncnkchedhnpaa.EVT
