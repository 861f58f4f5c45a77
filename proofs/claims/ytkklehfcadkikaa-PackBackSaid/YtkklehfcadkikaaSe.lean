/- What the functions of package pack compute: lists of texts, flags. -/
import Derived.Test.YtkklehfcadkikaaSd
import Derived.Test.YtkklehfcadkikaaJlaw030
import Derived.Test.YtkklehfcadkikaaJpack2
import Derived.Test.YtkklehfcadkikaaJref010
import Derived.Test.YtkklehfcadkikaaJref036
set_option linter.unusedVariables false
set_option linter.unusedSimpArgs false
namespace Go.Proofs.Ytkklehfcadkikaa.Sp
open Go.RowKit Go.Proofs.YtkklehfcadkikaaW.PrintWords Go.Proofs.YtkklehfcadkikaaW.PrintLast Go.Proofs.YtkklehfcadkikaaW.PrintMore Go.Proofs.Ytkklehfcadkikaa.J

theorem rNum_torn' (l : List Int) (n : Int) (m : Nat) (h0 : -9223372036854775808 ≤ n) (h1 : n ≤ 9223372036854775807) (hm : m < (enc (code n)).length) : rNum (l ++ (enc (code n)).take m) (l.length : Int) = (0, 0, 3) := by
  rw [rNum_in (by omega) (by rw [List.length_append]; omega), Int.toNat_natCast, List.drop_left]
  have := dec_torn (code n) 0 0 m (by simpa using code_lt h0 h1) (.inl rfl) hm
  simp [this, fin]
theorem rText_torn' (l : List Int) (s : ByteArray) (m : Nat) (lim : Int) (hs : (s.size : Int) ≤ lim) (hsz : s.size ≤ 35184372088832) (hm : m < (cat s).length) : rText (l ++ (cat s).take m) (l.length : Int) lim = (E0, 0, 3) := by
  rw [cat_len] at hm
  by_cases h : m < (enc (code (s.size : Int))).length
  · have e : (cat s).take m = (enc (code (s.size : Int))).take m := by unfold cat; rw [List.take_append_of_le_length (by omega)]
    unfold rText
    rw [e, rNum_torn' l (s.size : Int) m (by omega) (by omega) h]
    rfl
  · have e : (cat s).take m = enc (code (s.size : Int)) ++ (bytesOf s).take (m - (enc (code (s.size : Int))).length) := by unfold cat; rw [List.take_append, List.take_of_length_le (by omega)]
    have h2 := rNum_at l (s.size : Int) ((bytesOf s).take (m - (enc (code (s.size : Int))).length)) (by omega) (by omega)
    unfold rText
    rw [e, h2]
    dsimp only
    have hb := bytesOf_length s
    rw [if_pos rfl, if_neg (by omega), if_neg (by omega), if_pos (by simp only [List.length_append, List.length_take]; omega)]

def rTextsGo (b : List Int) (lim : Int) : Nat → Int → List ByteArray → List ByteArray × Int × Int
  | 0, p, acc => (acc, p, 0)
  | m + 1, p, acc => if (rText b p lim).2.2 = 0 then rTextsGo b lim m (rText b p lim).2.1 (acc ++ [(rText b p lim).1]) else ([], 0, (rText b p lim).2.2)
def rTexts (b : List Int) (p lim : Int) : List ByteArray × Int × Int :=
  if (rNum b p).2.2 = 0 then
    if (rNum b p).1 < 0 then ([], 0, 2) else if (rNum b p).1 > lim then ([], 0, 5) else rTextsGo b lim (rNum b p).1.toNat (rNum b p).2.1 []
  else ([], 0, (rNum b p).2.2)
theorem rText_split {b : List Int} {p lim : Int} (hb : Byt b) (h : (rText b p lim).2.2 = 0) : 0 ≤ p ∧ p < (rText b p lim).2.1 ∧ (rText b p lim).2.1 ≤ (b.length : Int) := by
  have h2 := rText_ok (s := (rText b p lim).1) (q := (rText b p lim).2.1) hb (by rw [← h])
  exact ⟨h2.1, h2.2.1, h2.2.2.1⟩
theorem pack_Texts_l0 (b : List Int) (hb : Byt b) (hlen : b.length ≤ 8796093022207) (lim n : Int) (hn : n ≤ 9223372036854775807) : ∀ (d : Nat) (i p : Int) (acc : List ByteArray), 0 ≤ i → i + (d : Int) = n → (acc.length : Int) ≤ p → p ≤ (b.length : Int) → Ev (fun k => pack_Texts.l0 k b lim p acc n i) (rTextsGo b lim d p acc) := by
  intro d
  induction d with
  | zero =>
    intro i p acc h0 hi ha hp
    refine Ev.step (f := fun _ => some (acc, p, 0)) (fun k => ?_) (Ev.now _)
    simp only [pack_Texts.l0]
    rw [if_neg (by omega)]
  | succ d ih =>
    intro i p acc h0 hi ha hp
    refine Ev.step (fun k => by simp only [pack_Texts.l0]; rw [if_pos (by omega), wrap64_in (n := i + 1) (by omega) (by omega)]) ?_
    refine Ev.bind (pack_Text_ev b hb (by omega) p lim) ?_
    unfold rTextsGo
    by_cases h : (rText b p lim).2.2 = 0
    · obtain ⟨g0, g1, g2⟩ := rText_split hb h
      simp only [if_pos h]
      exact Ev.pos (by omega) (ih (i + 1) _ (acc ++ [(rText b p lim).1]) (by omega) (by omega) (by simp; omega) g2)
    · simp only [if_neg h]; exact Ev.now _
theorem pack_Texts_ev (b : List Int) (hb : Byt b) (hlen : b.length ≤ 8796093022207) (p lim : Int) : Ev (fun k => pack_Texts.f k b p lim) (rTexts b p lim) := by
  unfold pack_Texts.f rTexts
  refine Ev.bind (pack_Num_ev b hb (by omega) p) ?_
  by_cases h : (rNum b p).2.2 = 0
  · obtain ⟨g1, g2, g3, g4, g5⟩ := rNum_split hb h
    simp only [if_pos h]
    by_cases h1 : (rNum b p).1 < 0
    · simp only [if_pos h1]; exact Ev.now _
    · simp only [if_neg h1]
      by_cases h2 : (rNum b p).1 > lim
      · simp only [if_pos h2]; exact Ev.now _
      · simp only [if_neg h2]
        exact pack_Texts_l0 b hb hlen lim _ g5 _ 0 _ [] (by omega) (by omega) (by simp; omega) g3
  · simp only [if_neg h]; exact Ev.now _
theorem ref_Texts_l0 (b : List Int) (hb : Byt b) (hlen : b.length ≤ 8796093022207) (lim n : Int) (hn : n ≤ 9223372036854775807) : ∀ (d : Nat) (i p : Int) (acc : List ByteArray), 0 ≤ i → i + (d : Int) = n → (acc.length : Int) ≤ p → p ≤ (b.length : Int) → Ev (fun k => brokerref03_Texts.l0 k b lim n p acc i) (rTextsGo b lim d p acc) := by
  intro d
  induction d with
  | zero =>
    intro i p acc h0 hi ha hp
    refine Ev.step (f := fun _ => some (acc, p, 0)) (fun k => ?_) (Ev.now _)
    simp only [brokerref03_Texts.l0]
    rw [if_neg (by omega)]
  | succ d ih =>
    intro i p acc h0 hi ha hp
    refine Ev.step (fun k => by simp only [brokerref03_Texts.l0]; rw [if_pos (by omega), wrap64_in (n := i + 1) (by omega) (by omega)]) ?_
    refine Ev.bind (ref_Text_ev b hb (by omega) p lim) ?_
    unfold rTextsGo
    by_cases h : (rText b p lim).2.2 = 0
    · obtain ⟨g0, g1, g2⟩ := rText_split hb h
      simp only [if_pos h]
      exact Ev.pos (by omega) (ih (i + 1) _ (acc ++ [(rText b p lim).1]) (by omega) (by omega) (by simp; omega) g2)
    · simp only [if_neg h]; exact Ev.now _
theorem ref_Texts_ev (b : List Int) (hb : Byt b) (hlen : b.length ≤ 8796093022207) (p lim : Int) : Ev (fun k => brokerref03_Texts.f k b p lim) (rTexts b p lim) := by
  unfold brokerref03_Texts.f rTexts
  refine Ev.bind (ref_Count_ev b hb (by omega) p lim) ?_
  unfold rCount
  by_cases h : (rNum b p).2.2 = 0
  · obtain ⟨g1, g2, g3, g4, g5⟩ := rNum_split hb h
    simp only [if_pos h]
    by_cases h1 : (rNum b p).1 < 0
    · simp only [if_pos h1]; exact Ev.neg (by simp) (Ev.now _)
    · simp only [if_neg h1]
      by_cases h2 : (rNum b p).1 > lim
      · simp only [if_pos h2]; exact Ev.neg (by simp) (Ev.now _)
      · simp only [if_neg h2, if_true]
        exact ref_Texts_l0 b hb hlen lim _ g5 _ 0 _ [] (by omega) (by omega) (by simp; omega) g3
  · simp only [if_neg h]; exact Ev.now _

/-! ### what is read is what was written -/
theorem goAt (lim : Int) (r : List Int) : ∀ (L : List ByteArray) (pre : List Int) (acc : List ByteArray), (∀ s ∈ L, (s.size : Int) ≤ lim ∧ s.size ≤ 35184372088832) →
    rTextsGo (pre ++ (cats L ++ r)) lim L.length (pre.length : Int) acc = (acc ++ L, (pre.length : Int) + ((cats L).length : Int), 0) := by
  intro L
  induction L with
  | nil => intro pre acc _; simp [rTextsGo, cats]
  | cons s R ih =>
    intro pre acc h
    have hs := h s (by simp)
    have e : pre ++ (cats (s :: R) ++ r) = pre ++ (cat s ++ (cats R ++ r)) := by simp [cats]
    have e2 : pre ++ (cats (s :: R) ++ r) = (pre ++ cat s) ++ (cats R ++ r) := by simp [cats]
    have h1 := rText_at pre s (cats R ++ r) lim hs.1 hs.2
    rw [List.length_cons]
    unfold rTextsGo
    rw [e, h1]
    dsimp only
    rw [if_pos rfl, ← e, e2]
    have h2 := ih (pre ++ cat s) (acc ++ [s]) (fun x hx => h x (List.mem_cons_of_mem _ hx))
    rw [List.length_append, show ((pre.length + (cat s).length : Nat) : Int) = (pre.length : Int) + ((cat s).length : Int) from by omega] at h2
    rw [h2]
    simp only [cats, List.length_append, List.append_assoc, List.singleton_append, Prod.mk.injEq, true_and, and_true]
    omega
theorem goOnly (b : List Int) (hb : Byt b) (lim : Int) : ∀ (m : Nat) (p : Int) (acc L : List ByteArray) (q : Int), 0 ≤ p → p ≤ (b.length : Int) → rTextsGo b lim m p acc = (L, q, 0) →
    ∃ L', L = acc ++ L' ∧ L'.length = m ∧ q = p + ((cats L').length : Int) ∧ (b.drop p.toNat).take (cats L').length = cats L' ∧ q ≤ (b.length : Int) := by
  intro m
  induction m with
  | zero =>
    intro p acc L q h0 h1 h
    simp only [rTextsGo, Prod.mk.injEq] at h
    exact ⟨[], by simp [h.1], rfl, by simp [cats, h.2.1], by simp [cats], by omega⟩
  | succ m ih =>
    intro p acc L q h0 h1 h
    unfold rTextsGo at h
    by_cases he : (rText b p lim).2.2 = 0
    · rw [if_pos he] at h
      obtain ⟨g1, g2, g3, g4, g5, g6⟩ := rText_ok (s := (rText b p lim).1) (q := (rText b p lim).2.1) hb (by rw [← he])
      obtain ⟨L', a1, a2, a3, a4, a5⟩ := ih _ _ L q (by omega) g3 h
      refine ⟨(rText b p lim).1 :: L', by rw [a1]; simp, by simp [a2], by simp only [cats, List.length_append]; omega, ?_, a5⟩
      simp only [cats, List.length_append]
      rw [List.take_add, g6]
      congr 1
      rw [List.drop_drop, ← a4]
      congr 2
      omega
    · rw [if_neg he] at h
      simp only [Prod.mk.injEq] at h
      exact absurd h.2.2 he
theorem goTorn (lim : Int) : ∀ (L : List ByteArray) (pre : List Int) (acc : List ByteArray) (m : Nat), (∀ s ∈ L, (s.size : Int) ≤ lim ∧ s.size ≤ 35184372088832) → m < (cats L).length →
    rTextsGo (pre ++ (cats L).take m) lim L.length (pre.length : Int) acc = ([], 0, 3) := by
  intro L
  induction L with
  | nil => intro pre acc m _ hm; simp [cats] at hm
  | cons s R ih =>
    intro pre acc m h hm
    have hs := h s (by simp)
    rw [List.length_cons]
    unfold rTextsGo
    by_cases hlt : m < (cat s).length
    · have e : (cats (s :: R)).take m = (cat s).take m := by simp only [cats]; rw [List.take_append_of_le_length (by omega)]
      rw [e, rText_torn' pre s m lim hs.1 hs.2 hlt]
      rfl
    · have e : (cats (s :: R)).take m = cat s ++ (cats R).take (m - (cat s).length) := by simp only [cats]; rw [List.take_append, List.take_of_length_le (by omega)]
      rw [e, rText_at pre s _ lim hs.1 hs.2]
      dsimp only
      rw [if_pos rfl, ← List.append_assoc]
      simp only [cats, List.length_append] at hm
      have h2 := ih (pre ++ cat s) (acc ++ [s]) (m - (cat s).length) (fun x hx => h x (List.mem_cons_of_mem _ hx)) (by omega)
      rw [List.length_append, show ((pre.length + (cat s).length : Nat) : Int) = (pre.length : Int) + ((cat s).length : Int) from by omega] at h2
      exact h2
def catl (L : List ByteArray) : List Int := enc (code (L.length : Int)) ++ cats L
theorem rTexts_at (pre : List Int) (L : List ByteArray) (r : List Int) (lim : Int) (hl : (L.length : Int) ≤ lim) (hL : L.length ≤ 4294967296) (h : ∀ s ∈ L, (s.size : Int) ≤ lim ∧ s.size ≤ 35184372088832) :
    rTexts (pre ++ (catl L ++ r)) (pre.length : Int) lim = (L, (pre.length : Int) + ((catl L).length : Int), 0) := by
  unfold rTexts
  have e : pre ++ (catl L ++ r) = pre ++ (enc (code (L.length : Int)) ++ (cats L ++ r)) := by simp [catl]
  have e2 : pre ++ (catl L ++ r) = (pre ++ enc (code (L.length : Int))) ++ (cats L ++ r) := by simp [catl]
  rw [e, rNum_at pre (L.length : Int) (cats L ++ r) (by omega) (by omega)]
  dsimp only
  rw [if_pos rfl, if_neg (by omega), if_neg (by omega), ← e, e2]
  have h2 := goAt lim r L (pre ++ enc (code (L.length : Int))) [] h
  rw [List.length_append, show ((pre.length + (enc (code (L.length : Int))).length : Nat) : Int) = (pre.length : Int) + ((enc (code (L.length : Int))).length : Int) from by omega] at h2
  rw [Int.toNat_natCast, h2]
  simp only [catl, List.length_append, List.nil_append, Prod.mk.injEq, true_and, and_true]
  omega
theorem rTexts_ok {b : List Int} {p lim q : Int} {L : List ByteArray} (hb : Byt b) (h : rTexts b p lim = (L, q, 0)) :
    0 ≤ p ∧ p < q ∧ q ≤ (b.length : Int) ∧ (L.length : Int) ≤ lim ∧ q = p + ((catl L).length : Int) ∧ (b.drop p.toNat).take (catl L).length = catl L := by
  unfold rTexts at h
  by_cases h0 : (rNum b p).2.2 = 0
  · rw [if_pos h0] at h
    by_cases h1 : (rNum b p).1 < 0
    · rw [if_pos h1] at h; simp at h
    · rw [if_neg h1] at h
      by_cases h2 : (rNum b p).1 > lim
      · rw [if_pos h2] at h; simp at h
      · rw [if_neg h2] at h
        obtain ⟨g1, g2, g3, g4, g5, g6, g7⟩ := rNum_ok (n := (rNum b p).1) (q := (rNum b p).2.1) hb (by rw [← h0])
        generalize (rNum b p).1 = n at *
        generalize (rNum b p).2.1 = q0 at *
        obtain ⟨L', a1, a2, a3, a4, a5⟩ := goOnly b hb lim _ _ _ _ _ (by omega) g3 h
        rw [List.nil_append] at a1
        subst a1
        have hn : n = (L.length : Int) := by omega
        have hp := enc_pos (code n)
        refine ⟨g1, by omega, a5, by omega, ?_, ?_⟩
        · simp only [catl, List.length_append]; rw [← hn]; omega
        · simp only [catl, List.length_append]
          rw [← hn, List.take_add, g7]
          congr 1
          rw [List.drop_drop, ← a4]
          congr 2
          omega
  · rw [if_neg h0] at h
    simp only [Prod.mk.injEq] at h
    exact absurd h.2.2 h0
theorem rTexts_torn (L : List ByteArray) (m : Nat) (lim : Int) (hl : (L.length : Int) ≤ lim) (hL : L.length ≤ 4294967296) (h : ∀ s ∈ L, (s.size : Int) ≤ lim ∧ s.size ≤ 35184372088832) (hm : m < (catl L).length) :
    (rTexts ((catl L).take m) 0 lim).2.2 = 3 := by
  simp only [catl, List.length_append] at hm
  unfold rTexts
  by_cases hlt : m < (enc (code (L.length : Int))).length
  · have e : (catl L).take m = (enc (code (L.length : Int))).take m := by unfold catl; rw [List.take_append_of_le_length (by omega)]
    rw [e, rNum_torn (L.length : Int) m (by omega) (by omega) hlt]
    rfl
  · have e : (catl L).take m = [] ++ (enc (code (L.length : Int)) ++ (cats L).take (m - (enc (code (L.length : Int))).length)) := by unfold catl; rw [List.take_append, List.take_of_length_le (by omega)]; rfl
    have h2 := rNum_at [] (L.length : Int) ((cats L).take (m - (enc (code (L.length : Int))).length)) (by omega) (by omega)
    rw [List.length_nil, show ((0 : Nat) : Int) = 0 from rfl] at h2
    rw [e, h2]
    dsimp only
    rw [if_pos rfl, if_neg (by omega), if_neg (by omega), List.nil_append]
    have h3 := goTorn lim L (enc (code (L.length : Int))) [] (m - (enc (code (L.length : Int))).length) h (by omega)
    rw [Int.toNat_natCast, show (0 : Int) + ((enc (code (L.length : Int))).length : Int) = ((enc (code (L.length : Int))).length : Int) from by omega, h3]

theorem cats_ge (L : List ByteArray) : L.length ≤ (cats L).length := by
  induction L with
  | nil => simp [cats]
  | cons s R ih =>
    have := enc_pos (code (s.size : Int))
    have := cat_len s
    simp only [cats, List.length_append, List.length_cons]
    omega
theorem cats_le (B : Nat) (hB : B ≤ 35184372088832) (L : List ByteArray) : Short B L → (cats L).length ≤ L.length * (B + 10) := by
  induction L with
  | nil => intro _; simp [cats]
  | cons s R ih =>
    intro h
    have h1 := h s (by simp)
    have h2 := cat_le s (by omega)
    have h3 := ih (fun x hx => h x (List.mem_cons_of_mem _ hx))
    simp only [cats, List.length_append, List.length_cons, Nat.succ_mul]
    omega
theorem rTextsGo_nil (b : List Int) (lim : Int) : ∀ (m : Nat) (p : Int) (acc : List ByteArray), (rTextsGo b lim m p acc).2.2 ≠ 0 → (rTextsGo b lim m p acc).1 = [] := by
  intro m
  induction m with
  | zero => intro p acc h; simp [rTextsGo] at h
  | succ m ih =>
    intro p acc h
    unfold rTextsGo at h ⊢
    by_cases h0 : (rText b p lim).2.2 = 0
    · rw [if_pos h0] at h ⊢; exact ih _ _ h
    · rw [if_neg h0]
theorem rTexts_nil {b : List Int} {p lim : Int} (h : (rTexts b p lim).2.2 ≠ 0) : (rTexts b p lim).1 = [] := by
  unfold rTexts at h ⊢
  by_cases h0 : (rNum b p).2.2 = 0
  · simp only [if_pos h0] at h ⊢
    by_cases h1 : (rNum b p).1 < 0
    · simp only [if_pos h1]
    · simp only [if_neg h1] at h ⊢
      by_cases h2 : (rNum b p).1 > lim
      · simp only [if_pos h2]
      · simp only [if_neg h2] at h ⊢
        exact rTextsGo_nil _ _ _ _ _ h
  · simp only [if_neg h0]

/-! ### the laws' own loops -/
theorem same_self (l : List ByteArray) (hl : l.length ≤ 4611686018427387904) : Ev (fun k => brokerref01_Same.f k l l) true := by
  unfold brokerref01_Same.f
  refine Ev.pos rfl ?_
  have : ∀ (d i : Nat), i + d = l.length → Ev (fun k => brokerref01_Same.l0 k l l (i : Int)) true := by
    intro d
    induction d with
    | zero =>
      intro i hi
      refine Ev.step (f := fun _ => some true) (fun k => ?_) (Ev.now _)
      simp only [brokerref01_Same.l0]; rw [if_neg (by omega)]
    | succ d ih =>
      intro i hi
      refine Ev.step (fun k => ?_) (ih (i + 1) (by omega))
      simp only [brokerref01_Same.l0]
      rw [if_pos (by omega), if_pos (by omega), if_pos (by omega), if_pos trivial, wrap64_in (by omega) (by omega)]
      rfl
  exact this l.length 0 (by omega)
theorem short_ev (l : List ByteArray) : ∃ r, Ev (fun k => brokerlaw03_short.f k l) r ∧ (r = true → l.length ≤ 24 ∧ Short 400 l) := by
  unfold brokerlaw03_short.f
  by_cases h : (l.length : Int) > 24
  · exact ⟨false, Ev.pos h (Ev.now _), by simp⟩
  · have : ∀ (d i : Nat), i + d = l.length → ∃ r, Ev (fun k => brokerlaw03_short.l0 k l (i : Int)) r ∧ (r = true → Short 400 (l.drop i)) := by
      intro d
      induction d with
      | zero =>
        intro i hi
        refine ⟨true, Ev.step (f := fun _ => some true) (fun k => ?_) (Ev.now _), fun _ => ?_⟩
        · simp only [brokerlaw03_short.l0]; rw [if_neg (by omega)]
        · rw [List.drop_of_length_le (by omega)]; intro s hs; simp at hs
      | succ d ih =>
        intro i hi
        by_cases hs : ((rdOf ByteArray.empty l (i : Int)).size : Int) > 400
        · refine ⟨false, Ev.step (f := fun _ => some false) (fun k => ?_) (Ev.now _), by simp⟩
          simp only [brokerlaw03_short.l0]; rw [if_pos (by omega), if_pos (by omega), if_pos hs]
        · obtain ⟨r, h1, h2⟩ := ih (i + 1) (by omega)
          refine ⟨r, Ev.step (fun k => ?_) h1, fun hr => ?_⟩
          · simp only [brokerlaw03_short.l0]; rw [if_pos (by omega), if_pos (by omega), if_neg hs, wrap64_in (by omega) (by omega)]; rfl
          · rw [drop_get ByteArray.empty l i (by omega)]
            intro s hm
            rcases List.mem_cons.1 hm with rfl | hm
            · omega
            · exact h2 hr s hm
    obtain ⟨r, h1, h2⟩ := this l.length 0 (by omega)
    exact ⟨r, Ev.neg h h1, fun hr => ⟨by omega, by simpa using h2 hr⟩⟩
end Go.Proofs.Ytkklehfcadkikaa.Sp
