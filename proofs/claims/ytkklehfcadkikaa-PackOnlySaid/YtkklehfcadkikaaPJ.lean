/- Lists of texts: plain facts, and what pack.PutTexts and pack.Texts compute. -/
import Derived.Test.YtkklehfcadkikaaQA
import Derived.Test.YtkklehfcadkikaaUP

set_option linter.unusedVariables false
set_option linter.unusedSimpArgs false
namespace Go.Proofs.Ytkklehfcadkikaa.EVT
open Go Go.EV

def cats : List (List UInt8) → List UInt8
  | [] => []
  | s :: r => cat s ++ cats r
theorem cats_append (a b : List (List UInt8)) : cats (a ++ b) = cats a ++ cats b := by
  induction a with
  | nil => rfl
  | cons s r ih => simp [cats, ih]
def total : List (List UInt8) → Nat
  | [] => 0
  | s :: r => 10 + s.length + total r
def Short (b : Nat) (l : List (List UInt8)) : Prop := ∀ s ∈ l, s.length ≤ b
theorem Short.drop {b : Nat} {l : List (List UInt8)} (h : Short b l) (n : Nat) : Short b (l.drop n) := fun s hs => h s (List.mem_of_mem_drop hs)

theorem rNum_torn' (l : List UInt8) (n : Int) (m : Nat) (h0 : -9223372036854775808 ≤ n) (h1 : n ≤ 9223372036854775807) (hm : m < (enc (code n)).length) : rNum (l ++ (enc (code n)).take m) (l.length : Int) = (0, 0, 3) := by
  rw [rNum_in (by omega) (by rw [List.length_append]; omega), Int.toNat_natCast, List.drop_left]
  have := dec_torn (code n) 0 0 m (by simpa using code_lt h0 h1) (.inl rfl) hm
  simp [this, fin]
theorem rText_torn' (l : List UInt8) (s : List UInt8) (m : Nat) (lim : Int) (hs : (s.length : Int) ≤ lim) (hsz : s.length ≤ 35184372088832) (hm : m < (cat s).length) : rText (l ++ (cat s).take m) (l.length : Int) lim = ([], 0, 3) := by
  rw [cat_len] at hm
  by_cases h : m < (enc (code (s.length : Int))).length
  · have e : (cat s).take m = (enc (code (s.length : Int))).take m := by unfold cat; rw [List.take_append_of_le_length (by omega)]
    unfold rText
    rw [e, rNum_torn' l (s.length : Int) m (by omega) (by omega) h]
    rfl
  · have e : (cat s).take m = enc (code (s.length : Int)) ++ s.take (m - (enc (code (s.length : Int))).length) := by unfold cat; rw [List.take_append, List.take_of_length_le (by omega)]
    have h2 := rNum_at l (s.length : Int) (s.take (m - (enc (code (s.length : Int))).length)) (by omega) (by omega)
    unfold rText
    rw [e, h2]
    dsimp only
    have hb := (rfl : s.length = s.length)
    rw [if_pos rfl, if_neg (by omega), if_neg (by omega), if_pos (by simp only [List.length_append, List.length_take]; omega)]

def rTextsGo (b : List UInt8) (lim : Int) : Nat → Int → List (List UInt8) → List (List UInt8) × Int × Int
  | 0, p, acc => (acc, p, 0)
  | m + 1, p, acc => if (rText b p lim).2.2 = 0 then rTextsGo b lim m (rText b p lim).2.1 (acc ++ [(rText b p lim).1]) else ([], 0, (rText b p lim).2.2)
def rTexts (b : List UInt8) (p lim : Int) : List (List UInt8) × Int × Int :=
  if (rNum b p).2.2 = 0 then
    if (rNum b p).1 < 0 then ([], 0, 2) else if (rNum b p).1 > lim then ([], 0, 5) else rTextsGo b lim (rNum b p).1.toNat (rNum b p).2.1 []
  else ([], 0, (rNum b p).2.2)
theorem rText_split {b : List UInt8} {p lim : Int} (hb : Byt b) (h : (rText b p lim).2.2 = 0) : 0 ≤ p ∧ p < (rText b p lim).2.1 ∧ (rText b p lim).2.1 ≤ (b.length : Int) := by
  have h2 := rText_ok (s := (rText b p lim).1) (q := (rText b p lim).2.1) hb (by rw [← h])
  exact ⟨h2.1, h2.2.1, h2.2.2.1⟩
/-! ### what is read is what was written -/
theorem goAt (lim : Int) (r : List UInt8) : ∀ (L : List (List UInt8)) (pre : List UInt8) (acc : List (List UInt8)), (∀ s ∈ L, (s.length : Int) ≤ lim ∧ s.length ≤ 35184372088832) →
    rTextsGo (pre ++ (cats L ++ r)) lim L.length (pre.length : Int) acc = (acc ++ L, (pre.length : Int) + ((cats L).length : Int), 0) := by
  intro L
  induction L with
  | nil => intro pre acc _; simp [rTextsGo, cats]
  | cons s R ih =>
    intro pre acc h
    have hs := h s (by simp)
    have e : pre ++ (cats (s :: R) ++ r) = pre ++ (cat s ++ (cats R ++ r)) := by simp [cats]
    have e2 : pre ++ (cats (s :: R) ++ r) = (pre ++ cat s) ++ (cats R ++ r) := by simp [cats]
    have h1 := rText_at pre s (cats R ++ r) lim hs.1 hs.2
    rw [List.length_cons]
    unfold rTextsGo
    rw [e, h1]
    dsimp only
    rw [if_pos rfl, ← e, e2]
    have h2 := ih (pre ++ cat s) (acc ++ [s]) (fun x hx => h x (List.mem_cons_of_mem _ hx))
    rw [List.length_append, show ((pre.length + (cat s).length : Nat) : Int) = (pre.length : Int) + ((cat s).length : Int) from by omega] at h2
    rw [h2]
    simp only [cats, List.length_append, List.append_assoc, List.singleton_append, Prod.mk.injEq, true_and, and_true]
    omega
theorem goOnly (b : List UInt8) (hb : Byt b) (lim : Int) : ∀ (m : Nat) (p : Int) (acc L : List (List UInt8)) (q : Int), 0 ≤ p → p ≤ (b.length : Int) → rTextsGo b lim m p acc = (L, q, 0) →
    ∃ L', L = acc ++ L' ∧ L'.length = m ∧ q = p + ((cats L').length : Int) ∧ (b.drop p.toNat).take (cats L').length = cats L' ∧ q ≤ (b.length : Int) := by
  intro m
  induction m with
  | zero =>
    intro p acc L q h0 h1 h
    simp only [rTextsGo, Prod.mk.injEq] at h
    exact ⟨[], by simp [h.1], rfl, by simp [cats, h.2.1], by simp [cats], by omega⟩
  | succ m ih =>
    intro p acc L q h0 h1 h
    unfold rTextsGo at h
    by_cases he : (rText b p lim).2.2 = 0
    · rw [if_pos he] at h
      obtain ⟨g1, g2, g3, g4, g5, g6⟩ := rText_ok (s := (rText b p lim).1) (q := (rText b p lim).2.1) hb (by rw [← he])
      obtain ⟨L', a1, a2, a3, a4, a5⟩ := ih _ _ L q (by omega) g3 h
      refine ⟨(rText b p lim).1 :: L', by rw [a1]; simp, by simp [a2], by simp only [cats, List.length_append]; omega, ?_, a5⟩
      simp only [cats, List.length_append]
      rw [List.take_add, g6]
      congr 1
      rw [List.drop_drop, ← a4]
      congr 2
      omega
    · rw [if_neg he] at h
      simp only [Prod.mk.injEq] at h
      exact absurd h.2.2 he
theorem goTorn (lim : Int) : ∀ (L : List (List UInt8)) (pre : List UInt8) (acc : List (List UInt8)) (m : Nat), (∀ s ∈ L, (s.length : Int) ≤ lim ∧ s.length ≤ 35184372088832) → m < (cats L).length →
    rTextsGo (pre ++ (cats L).take m) lim L.length (pre.length : Int) acc = ([], 0, 3) := by
  intro L
  induction L with
  | nil => intro pre acc m _ hm; simp [cats] at hm
  | cons s R ih =>
    intro pre acc m h hm
    have hs := h s (by simp)
    rw [List.length_cons]
    unfold rTextsGo
    by_cases hlt : m < (cat s).length
    · have e : (cats (s :: R)).take m = (cat s).take m := by simp only [cats]; rw [List.take_append_of_le_length (by omega)]
      rw [e, rText_torn' pre s m lim hs.1 hs.2 hlt]
      rfl
    · have e : (cats (s :: R)).take m = cat s ++ (cats R).take (m - (cat s).length) := by simp only [cats]; rw [List.take_append, List.take_of_length_le (by omega)]
      rw [e, rText_at pre s _ lim hs.1 hs.2]
      dsimp only
      rw [if_pos rfl, ← List.append_assoc]
      simp only [cats, List.length_append] at hm
      have h2 := ih (pre ++ cat s) (acc ++ [s]) (m - (cat s).length) (fun x hx => h x (List.mem_cons_of_mem _ hx)) (by omega)
      rw [List.length_append, show ((pre.length + (cat s).length : Nat) : Int) = (pre.length : Int) + ((cat s).length : Int) from by omega] at h2
      exact h2
def catl (L : List (List UInt8)) : List UInt8 := enc (code (L.length : Int)) ++ cats L
theorem rTexts_at (pre : List UInt8) (L : List (List UInt8)) (r : List UInt8) (lim : Int) (hl : (L.length : Int) ≤ lim) (hL : L.length ≤ 4294967296) (h : ∀ s ∈ L, (s.length : Int) ≤ lim ∧ s.length ≤ 35184372088832) :
    rTexts (pre ++ (catl L ++ r)) (pre.length : Int) lim = (L, (pre.length : Int) + ((catl L).length : Int), 0) := by
  unfold rTexts
  have e : pre ++ (catl L ++ r) = pre ++ (enc (code (L.length : Int)) ++ (cats L ++ r)) := by simp [catl]
  have e2 : pre ++ (catl L ++ r) = (pre ++ enc (code (L.length : Int))) ++ (cats L ++ r) := by simp [catl]
  rw [e, rNum_at pre (L.length : Int) (cats L ++ r) (by omega) (by omega)]
  dsimp only
  rw [if_pos rfl, if_neg (by omega), if_neg (by omega), ← e, e2]
  have h2 := goAt lim r L (pre ++ enc (code (L.length : Int))) [] h
  rw [List.length_append, show ((pre.length + (enc (code (L.length : Int))).length : Nat) : Int) = (pre.length : Int) + ((enc (code (L.length : Int))).length : Int) from by omega] at h2
  rw [Int.toNat_natCast, h2]
  simp only [catl, List.length_append, List.nil_append, Prod.mk.injEq, true_and, and_true]
  omega
theorem rTexts_ok {b : List UInt8} {p lim q : Int} {L : List (List UInt8)} (hb : Byt b) (h : rTexts b p lim = (L, q, 0)) :
    0 ≤ p ∧ p < q ∧ q ≤ (b.length : Int) ∧ (L.length : Int) ≤ lim ∧ q = p + ((catl L).length : Int) ∧ (b.drop p.toNat).take (catl L).length = catl L := by
  unfold rTexts at h
  by_cases h0 : (rNum b p).2.2 = 0
  · rw [if_pos h0] at h
    by_cases h1 : (rNum b p).1 < 0
    · rw [if_pos h1] at h; simp at h
    · rw [if_neg h1] at h
      by_cases h2 : (rNum b p).1 > lim
      · rw [if_pos h2] at h; simp at h
      · rw [if_neg h2] at h
        obtain ⟨g1, g2, g3, g4, g5, g6, g7⟩ := rNum_ok (n := (rNum b p).1) (q := (rNum b p).2.1) hb (by rw [← h0])
        generalize (rNum b p).1 = n at *
        generalize (rNum b p).2.1 = q0 at *
        obtain ⟨L', a1, a2, a3, a4, a5⟩ := goOnly b hb lim _ _ _ _ _ (by omega) g3 h
        rw [List.nil_append] at a1
        subst a1
        have hn : n = (L.length : Int) := by omega
        have hp := enc_pos (code n)
        refine ⟨g1, by omega, a5, by omega, ?_, ?_⟩
        · simp only [catl, List.length_append]; rw [← hn]; omega
        · simp only [catl, List.length_append]
          rw [← hn, List.take_add, g7]
          congr 1
          rw [List.drop_drop, ← a4]
          congr 2
          omega
  · rw [if_neg h0] at h
    simp only [Prod.mk.injEq] at h
    exact absurd h.2.2 h0
theorem rTexts_torn (L : List (List UInt8)) (m : Nat) (lim : Int) (hl : (L.length : Int) ≤ lim) (hL : L.length ≤ 4294967296) (h : ∀ s ∈ L, (s.length : Int) ≤ lim ∧ s.length ≤ 35184372088832) (hm : m < (catl L).length) :
    (rTexts ((catl L).take m) 0 lim).2.2 = 3 := by
  simp only [catl, List.length_append] at hm
  unfold rTexts
  by_cases hlt : m < (enc (code (L.length : Int))).length
  · have e : (catl L).take m = (enc (code (L.length : Int))).take m := by unfold catl; rw [List.take_append_of_le_length (by omega)]
    rw [e, rNum_torn (L.length : Int) m (by omega) (by omega) hlt]
    rfl
  · have e : (catl L).take m = [] ++ (enc (code (L.length : Int)) ++ (cats L).take (m - (enc (code (L.length : Int))).length)) := by unfold catl; rw [List.take_append, List.take_of_length_le (by omega)]; rfl
    have h2 := rNum_at [] (L.length : Int) ((cats L).take (m - (enc (code (L.length : Int))).length)) (by omega) (by omega)
    rw [List.length_nil, show ((0 : Nat) : Int) = 0 from rfl] at h2
    rw [e, h2]
    dsimp only
    rw [if_pos rfl, if_neg (by omega), if_neg (by omega), List.nil_append]
    have h3 := goTorn lim L (enc (code (L.length : Int))) [] (m - (enc (code (L.length : Int))).length) h (by omega)
    rw [Int.toNat_natCast, show (0 : Int) + ((enc (code (L.length : Int))).length : Int) = ((enc (code (L.length : Int))).length : Int) from by omega, h3]

theorem cats_ge (L : List (List UInt8)) : L.length ≤ (cats L).length := by
  induction L with
  | nil => simp [cats]
  | cons s R ih =>
    have := enc_pos (code (s.length : Int))
    have := cat_len s
    simp only [cats, List.length_append, List.length_cons]
    omega
theorem cats_le (B : Nat) (hB : B ≤ 35184372088832) (L : List (List UInt8)) : Short B L → (cats L).length ≤ L.length * (B + 10) := by
  induction L with
  | nil => intro _; simp [cats]
  | cons s R ih =>
    intro h
    have h1 := h s (by simp)
    have h2 := cat_le s (by omega)
    have h3 := ih (fun x hx => h x (List.mem_cons_of_mem _ hx))
    simp only [cats, List.length_append, List.length_cons, Nat.succ_mul]
    omega
theorem rTextsGo_nil (b : List UInt8) (lim : Int) : ∀ (m : Nat) (p : Int) (acc : List (List UInt8)), (rTextsGo b lim m p acc).2.2 ≠ 0 → (rTextsGo b lim m p acc).1 = [] := by
  intro m
  induction m with
  | zero => intro p acc h; simp [rTextsGo] at h
  | succ m ih =>
    intro p acc h
    unfold rTextsGo at h ⊢
    by_cases h0 : (rText b p lim).2.2 = 0
    · rw [if_pos h0] at h ⊢; exact ih _ _ h
    · rw [if_neg h0]
theorem rTexts_nil {b : List UInt8} {p lim : Int} (h : (rTexts b p lim).2.2 ≠ 0) : (rTexts b p lim).1 = [] := by
  unfold rTexts at h ⊢
  by_cases h0 : (rNum b p).2.2 = 0
  · simp only [if_pos h0] at h ⊢
    by_cases h1 : (rNum b p).1 < 0
    · simp only [if_pos h1]
    · simp only [if_neg h1] at h ⊢
      by_cases h2 : (rNum b p).1 > lim
      · simp only [if_pos h2]
      · simp only [if_neg h2] at h ⊢
        exact rTextsGo_nil _ _ _ _ _ h
  · simp only [if_neg h0]

/-! ### the printed functions -/
theorem puts_loop (L : List (List UInt8)) (hs : ∀ s ∈ L, s.length ≤ 400) (hl : L.length ≤ 1000) : ∀ (d i k : Nat) (acc : List UInt8), i + d = L.length → acc.length + d * 410 ≤ 1000000 → d < k →
    loopN st28_0 k ((L, (L.length : Int), (i : Int)), acc) = some (.inl ((), acc ++ cats (L.drop i))) := by
  intro d
  induction d with
  | zero =>
    intro i k acc hi ha hk
    cases k with
    | zero => omega
    | succ k =>
      rw [List.drop_of_length_le (by omega)]
      rw [loopN_s]; generalize loopN st28_0 k = LL at *; dsimp only [st28_0]
      rw [cf (by (rw [Bool.eq_false_iff]; simp only [ne_eq, Bool.and_eq_true, Bool.or_eq_true, decide_eq_true_eq, beq_iff_eq, bne_iff_ne, Bool.not_eq_true', decide_eq_false_iff_not, and_true, true_and]; omega))]; simp [cats]
  | succ d ih =>
    intro i k acc hi ha hk
    cases k with
    | zero => omega
    | succ k =>
      have ih' := fun acc a => ih (i + 1) k acc (by omega) a (by omega)
      have hlt : i < L.length := by omega
      have hat : L.getD i [] = L[i] := by rw [List.getD_eq_getElem?_getD, List.getElem?_eq_getElem hlt]; rfl
      have hdr : L.drop i = L[i] :: L.drop (i + 1) := List.drop_eq_getElem_cons hlt
      have h400 := hs L[i] (List.getElem_mem hlt)
      rw [loopN_s]; generalize loopN st28_0 k = LL at ih' ⊢; dsimp only [st28_0]
      rw [ct (by (simp only [ne_eq, Bool.and_eq_true, Bool.or_eq_true, decide_eq_true_eq, beq_iff_eq, bne_iff_ne, Bool.not_eq_true', decide_eq_false_iff_not, and_true, true_and]; omega)), ct (by (simp only [ne_eq, Bool.and_eq_true, Bool.or_eq_true, decide_eq_true_eq, beq_iff_eq, bne_iff_ne, Bool.not_eq_true', decide_eq_false_iff_not, and_true, true_and]; omega)), Int.toNat_natCast, hat, hdr]
      generalize L[i] = x at *
      have hc := cat_le x (by omega)
      have hcl := cat_len x
      rw [add_eq acc _ (by omega) (by omega) (by omega)]
      simp only [Option.bind_some]
      have he := enc_len10 (code_lt (n := (x.length : Int)) (by omega) (by omega))
      rw [ct (decide_eq_true (show List.length (acc ++ enc (code (x.length : Int))) + List.length x ≤ 2147483647 by rw [List.length_append]; omega)), i64w (by omega) (by omega)]
      have h1 := ih' (acc ++ cat x) (by rw [List.length_append]; omega)
      have e : acc ++ enc (code (x.length : Int)) ++ x = acc ++ cat x := by unfold cat; simp
      rw [e]
      refine Eq.trans h1 ?_
      simp [cats]
theorem PutTexts_eq (l : List UInt8) (L : List (List UInt8)) (hs : ∀ s ∈ L, s.length ≤ 400) (hl : L.length ≤ 1000) (hll : l.length ≤ 1000) : g28 l L = some (l ++ catl L) := by
  have he := enc_len10 (code_lt (n := (L.length : Int)) (by omega) (by omega))
  have lp := puts_loop L hs hl L.length 0 fuel (l ++ enc (code (L.length : Int))) (by omega) (by rw [List.length_append]; omega) (by rw [fuel_eq]; omega)
  have lp' : h28_0 ((L, (L.length : Int), 0), l ++ enc (code (L.length : Int))) = _ := lp
  unfold g28
  rw [owned_eq l 10 (by omega) (by omega)]
  simp only [Option.bind_some]
  rw [add_eq l _ (by omega) (by omega) (by omega)]
  simp only [Option.bind_some]
  rw [lp']
  simp [catl]
theorem texts_loop (b : List UInt8) (hlen : b.length ≤ 2147483646) (lim n : Int) (hn : n ≤ 9223372036854775807) : ∀ (d k : Nat) (i p : Int) (acc : List (List UInt8)), 0 ≤ i → i + (d : Int) = n → (acc.length : Int) ≤ p → p ≤ (b.length : Int) → d < k →
    ∃ o, loopN st45_0 k ((b, lim, p, n, i), acc) = some o ∧ (match o with | .inl x => some (x.2, x.1, 0) | .inr x => some x) = some (rTextsGo b lim d p acc) := by
  intro d
  induction d with
  | zero =>
    intro k i p acc h0 hi ha hp hk
    cases k with
    | zero => omega
    | succ k =>
      rw [loopN_s]; generalize loopN st45_0 k = LL at *; dsimp only [st45_0]
      rw [cf (by (rw [Bool.eq_false_iff]; simp only [ne_eq, Bool.and_eq_true, Bool.or_eq_true, decide_eq_true_eq, beq_iff_eq, bne_iff_ne, Bool.not_eq_true', decide_eq_false_iff_not, and_true, true_and]; omega))]; exact ⟨_, rfl, rfl⟩
  | succ d ih =>
    intro k i p acc h0 hi ha hp hk
    cases k with
    | zero => omega
    | succ k =>
      have ih' := fun i p acc h1 h2 h3 h4 => ih k i p acc h1 h2 h3 h4 (by omega)
      rw [loopN_s]; generalize loopN st45_0 k = LL at ih' ⊢; dsimp only [st45_0]
      rw [ct (by (simp only [ne_eq, Bool.and_eq_true, Bool.or_eq_true, decide_eq_true_eq, beq_iff_eq, bne_iff_ne, Bool.not_eq_true', decide_eq_false_iff_not, and_true, true_and]; omega)), Text_eq b (by omega)]
      simp only [Option.bind_some]
      unfold rTextsGo
      by_cases h : (rText b p lim).2.2 = 0
      · obtain ⟨g0, g1, g2⟩ := rText_split trivial h
        rw [if_pos h, cf (by (rw [Bool.eq_false_iff]; simp only [ne_eq, Bool.and_eq_true, Bool.or_eq_true, decide_eq_true_eq, beq_iff_eq, bne_iff_ne, Bool.not_eq_true', decide_eq_false_iff_not, and_true, true_and]; omega)), ct (decide_eq_true (show List.length acc + 1 ≤ 2147483647 by omega)), i64w (by omega) (by omega)]
        exact ih' (i + 1) _ (acc ++ [(rText b p lim).1]) (by omega) (by omega) (by rw [List.length_append]; simp only [List.length_cons, List.length_nil]; omega) g2
      · rw [if_neg h, ct (by (simp only [ne_eq, Bool.and_eq_true, Bool.or_eq_true, decide_eq_true_eq, beq_iff_eq, bne_iff_ne, Bool.not_eq_true', decide_eq_false_iff_not, and_true, true_and]; omega))]; exact ⟨_, rfl, rfl⟩
theorem Texts_eq (b : List UInt8) (hlen : b.length ≤ 2147483646) (p lim : Int) (hlim : lim ≤ 9223372036854775807) : g45 b p lim = some (rTexts b p lim) := by
  unfold g45 rTexts
  rw [Num_eq b (by omega) p]
  simp only [Option.bind_some]
  by_cases h : (rNum b p).2.2 = 0
  · obtain ⟨g1, g2, g3, g4, g5⟩ := rNum_div h
    rw [if_pos h, cf (by (rw [Bool.eq_false_iff]; simp only [ne_eq, Bool.and_eq_true, Bool.or_eq_true, decide_eq_true_eq, beq_iff_eq, bne_iff_ne, Bool.not_eq_true', decide_eq_false_iff_not, and_true, true_and]; omega))]
    generalize (rNum b p).1 = n at *
    generalize (rNum b p).2.1 = q at *
    by_cases h1 : n < 0
    · rw [if_pos h1, ct (by (simp only [ne_eq, Bool.and_eq_true, Bool.or_eq_true, decide_eq_true_eq, beq_iff_eq, bne_iff_ne, Bool.not_eq_true', decide_eq_false_iff_not, and_true, true_and]; omega))]
    · by_cases h2 : n > lim
      · rw [if_neg h1, if_pos h2, cf (by (rw [Bool.eq_false_iff]; simp only [ne_eq, Bool.and_eq_true, Bool.or_eq_true, decide_eq_true_eq, beq_iff_eq, bne_iff_ne, Bool.not_eq_true', decide_eq_false_iff_not, and_true, true_and]; omega)), ct (by (simp only [ne_eq, Bool.and_eq_true, Bool.or_eq_true, decide_eq_true_eq, beq_iff_eq, bne_iff_ne, Bool.not_eq_true', decide_eq_false_iff_not, and_true, true_and]; omega))]
      · rw [if_neg h1, if_neg h2, cf (by (rw [Bool.eq_false_iff]; simp only [ne_eq, Bool.and_eq_true, Bool.or_eq_true, decide_eq_true_eq, beq_iff_eq, bne_iff_ne, Bool.not_eq_true', decide_eq_false_iff_not, and_true, true_and]; omega)), cf (by (rw [Bool.eq_false_iff]; simp only [ne_eq, Bool.and_eq_true, Bool.or_eq_true, decide_eq_true_eq, beq_iff_eq, bne_iff_ne, Bool.not_eq_true', decide_eq_false_iff_not, and_true, true_and]; omega))]
        obtain ⟨o, k1, k2⟩ := texts_loop b hlen lim n (by omega) n.toNat fuel 0 q [] (by omega) (by omega) (by simp; omega) g3 (by rw [fuel_eq]; omega)
        have k1' : h45_0 ((b, lim, q, n, 0), []) = some o := k1
        rw [k1']
        simp only [Option.bind_some]
        exact k2
  · rw [if_neg h, ct (by (simp only [ne_eq, Bool.and_eq_true, Bool.or_eq_true, decide_eq_true_eq, beq_iff_eq, bne_iff_ne, Bool.not_eq_true', decide_eq_false_iff_not, and_true, true_and]; omega))]
end Go.Proofs.Ytkklehfcadkikaa.EVT
