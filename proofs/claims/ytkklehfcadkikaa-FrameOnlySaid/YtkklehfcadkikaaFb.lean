/- Plain laws of frames: what is read is what was written; what is torn or damaged is told. -/
import Derived.Test.YtkklehfcadkikaaFa
set_option linter.unusedVariables false
set_option linter.unusedSimpArgs false
namespace Go.Proofs.Ytkklehfcadkikaa.Sp
open Go.RowKit Go.Proofs.YtkklehfcadkikaaW.PrintWords Go.Proofs.YtkklehfcadkikaaW.PrintLast Go.Proofs.YtkklehfcadkikaaW.PrintMore

theorem cut_mid (l c r : List Int) {q n : Int} (hq : q = (l.length : Int)) (hn : n = (c.length : Int)) : cut (l ++ (c ++ r)) q n = c := by
  subst hq; subst hn
  unfold cut
  rw [show ((l.length : Int) + (c.length : Int)).toNat = l.length + c.length from by omega, Int.toNat_natCast]
  rw [List.take_append, List.drop_append, List.take_of_length_le (by omega), List.drop_of_length_le (by omega), List.nil_append, Nat.add_sub_cancel_left, Nat.sub_self, List.drop_zero, List.take_left]
theorem be4_length (s : Nat) : (be4 s).length = 4 := rfl
/-- A frame, or what looks like one (any four bytes in the checksum's place), read at its place. -/
theorem rNext_at (l c p r : List Int) (hc : c.length = 4) (hp : p.length ≤ 65536) :
    rNext (l ++ (enc (code (p.length : Int)) ++ (c ++ (p ++ r)))) (l.length : Int) = if c = be4 (sum p) then (p, (l.length : Int) + ((enc (code (p.length : Int))).length : Int) + 4 + (p.length : Int), 0) else ([], 0, 4) := by
  have h1 := rNum_at l (p.length : Int) (c ++ (p ++ r)) (by omega) (by omega)
  unfold rNext
  rw [h1]
  dsimp only
  have e1 : l ++ (enc (code (p.length : Int)) ++ (c ++ (p ++ r))) = (l ++ enc (code (p.length : Int))) ++ (c ++ (p ++ r)) := by simp
  have e2 : l ++ (enc (code (p.length : Int)) ++ (c ++ (p ++ r))) = (l ++ enc (code (p.length : Int)) ++ c) ++ (p ++ r) := by simp
  have c1 : cut (l ++ (enc (code (p.length : Int)) ++ (c ++ (p ++ r)))) ((l.length : Int) + ((enc (code (p.length : Int))).length : Int)) 4 = c := by
    rw [e1]; exact cut_mid _ _ _ (by simp) (by rw [hc]; rfl)
  have c2 : pay (l ++ (enc (code (p.length : Int)) ++ (c ++ (p ++ r)))) ((l.length : Int) + ((enc (code (p.length : Int))).length : Int)) (p.length : Int) = p := by
    unfold pay
    rw [e2]; exact cut_mid _ _ _ (by simp [hc]; omega) rfl
  rw [c1, c2, if_pos rfl, if_neg (by omega), if_neg (by omega), if_neg (by simp only [List.length_append]; omega)]
theorem rNext_wrap (l p r : List Int) (hp : p.length ≤ 65536) : rNext (l ++ (wrapF p ++ r)) (l.length : Int) = (p, (l.length : Int) + ((wrapF p).length : Int), 0) := by
  have h := rNext_at l (be4 (sum p)) p r rfl hp
  rw [if_pos rfl] at h
  have e : l ++ (wrapF p ++ r) = l ++ (enc (code (p.length : Int)) ++ (be4 (sum p) ++ (p ++ r))) := by simp [wrapF]
  rw [e, h, wrapF_len]
  simp only [Prod.mk.injEq, true_and, and_true]
  omega
theorem rNext_ok {b : List Int} {p q : Int} {x : List Int} (hb : Byt b) (h : rNext b p = (x, q, 0)) :
    0 ≤ p ∧ p < q ∧ q ≤ (b.length : Int) ∧ x.length ≤ 65536 ∧ q = p + ((wrapF x).length : Int) ∧ (b.drop p.toNat).take (wrapF x).length = wrapF x ∧ Byt x := by
  unfold rNext at h
  by_cases h0 : (rNum b p).2.2 = 0
  · rw [if_pos h0] at h
    by_cases h1 : (rNum b p).1 < 0
    · rw [if_pos h1] at h; simp at h
    · rw [if_neg h1] at h
      by_cases h2 : (rNum b p).1 > 65536
      · rw [if_pos h2] at h; simp at h
      · rw [if_neg h2] at h
        by_cases h3 : (b.length : Int) - (rNum b p).2.1 < 4 + (rNum b p).1
        · rw [if_pos h3] at h; simp at h
        · rw [if_neg h3] at h
          by_cases h4 : cut b (rNum b p).2.1 4 = be4 (sum (pay b (rNum b p).2.1 (rNum b p).1))
          · rw [if_pos h4] at h
            simp only [Prod.mk.injEq, and_true] at h
            obtain ⟨rfl, rfl⟩ := h
            obtain ⟨g1, g2, g3, g4, g5, g6, g7⟩ := rNum_ok (n := (rNum b p).1) (q := (rNum b p).2.1) hb (by rw [← h0])
            generalize (rNum b p).1 = n at *
            generalize (rNum b p).2.1 = q at *
            have hl : (pay b q n).length = n.toNat := cut_length (by omega) (by omega) (by omega)
            have hw := wrapF_len (pay b q n)
            rw [hl, show ((n.toNat : Nat) : Int) = n from by omega] at hw
            refine ⟨g1, by omega, by omega, by omega, by omega, ?_, cut_byt hb _ _⟩
            have e0 : (b.drop p.toNat).take (wrapF (pay b q n)).length = cut b p (q - p + (4 + n)) := by
              unfold cut; rw [List.drop_take]; congr 1; omega
            have e1 : cut b p (q - p) = enc (code n) := by
              unfold cut
              rw [← g7, List.drop_take]; congr 1; omega
            have e2 : cut b q (4 + n) = cut b q 4 ++ pay b q n := by
              have := cut_split (b := b) (p := q) (q := q + 4) (n := n) (by omega) (by omega) (by omega)
              rw [show q + 4 - q = 4 from by omega] at this
              exact this
            rw [e0, cut_split (by omega) (by omega) (by omega), e1, e2, h4]
            unfold wrapF
            rw [hl, show ((n.toNat : Nat) : Int) = n from by omega]
          · rw [if_neg h4] at h; simp at h
  · rw [if_neg h0] at h
    simp only [Prod.mk.injEq] at h
    exact absurd h.2.2 h0
theorem rNext_zero {b : List Int} {p : Int} (h : (rNext b p).2.2 ≠ 0) : (rNext b p).1 = [] ∧ (rNext b p).2.1 = 0 := by
  unfold rNext at h ⊢
  by_cases h0 : (rNum b p).2.2 = 0
  · simp only [if_pos h0] at h ⊢
    by_cases h1 : (rNum b p).1 < 0
    · simp only [if_pos h1, and_self]
    · simp only [if_neg h1] at h ⊢
      by_cases h2 : (rNum b p).1 > 65536
      · simp only [if_pos h2, and_self]
      · simp only [if_neg h2] at h ⊢
        by_cases h3 : (b.length : Int) - (rNum b p).2.1 < 4 + (rNum b p).1
        · simp only [if_pos h3, and_self]
        · simp only [if_neg h3] at h ⊢
          by_cases h4 : cut b (rNum b p).2.1 4 = be4 (sum (pay b (rNum b p).2.1 (rNum b p).1))
          · simp only [if_pos h4] at h; exact absurd rfl h
          · simp only [if_neg h4, and_self]
  · simp only [if_neg h0, and_self]
/-- A frame that ends too early is torn. -/
theorem rNext_torn (l p : List Int) (m : Nat) (hp : p.length ≤ 65536) (hm : m < (wrapF p).length) : rNext (l ++ (wrapF p).take m) (l.length : Int) = ([], 0, 3) := by
  rw [wrapF_len] at hm
  unfold rNext
  by_cases h : m < (enc (code (p.length : Int))).length
  · have e : (wrapF p).take m = (enc (code (p.length : Int))).take m := by unfold wrapF; rw [List.take_append_of_le_length (by omega)]
    have h2 : rNum (l ++ (enc (code (p.length : Int))).take m) (l.length : Int) = (0, 0, 3) := by
      rw [rNum_in (by omega) (by rw [List.length_append]; omega), Int.toNat_natCast, List.drop_left]
      have := dec_torn (code (p.length : Int)) 0 0 m (by simpa using code_lt (n := (p.length : Int)) (by omega) (by omega)) (.inl rfl) h
      simp [this, fin]
    rw [e, h2]
    rfl
  · have e : (wrapF p).take m = enc (code (p.length : Int)) ++ (be4 (sum p) ++ p).take (m - (enc (code (p.length : Int))).length) := by unfold wrapF; rw [List.take_append, List.take_of_length_le (by omega)]
    rw [e, rNum_at l (p.length : Int) _ (by omega) (by omega)]
    dsimp only
    rw [if_pos rfl, if_neg (by omega), if_neg (by omega), if_pos (by simp only [List.length_append, List.length_take, be4_length]; omega)]

/-! ### damage -/
theorem mul_back {a : Nat} (ha : a < 4294967296) : a * 16777619 % 4294967296 * 899433627 % 4294967296 = a := by
  rw [Nat.mod_mul_mod, Nat.mul_assoc, show 16777619 * 899433627 = 1 + 4294967296 * 3513497 from by decide, Nat.mul_add, Nat.mul_one, Nat.mul_left_comm, Nat.add_mul_mod_self_left, Nat.mod_eq_of_lt ha]
theorem mul_inj {a b : Nat} (ha : a < 4294967296) (hb : b < 4294967296) (h : a * 16777619 % 4294967296 = b * 16777619 % 4294967296) : a = b := by
  rw [← mul_back ha, h, mul_back hb]
theorem xor_inj_left {s t x : Nat} (h : s ^^^ x = t ^^^ x) : s = t := by
  have : s ^^^ x ^^^ x = t ^^^ x ^^^ x := by rw [h]
  rwa [Nat.xor_assoc, Nat.xor_self, Nat.xor_zero, Nat.xor_assoc, Nat.xor_self, Nat.xor_zero] at this
theorem xor_inj_right {s x y : Nat} (h : s ^^^ x = s ^^^ y) : x = y := by
  rw [Nat.xor_comm s x, Nat.xor_comm s y] at h; exact xor_inj_left h
theorem stp_inj_left {s t x : Nat} (hs : s < 4294967296) (ht : t < 4294967296) (hx : x < 4294967296) (h : stp s x = stp t x) : s = t := xor_inj_left (mul_inj (xor_lt hs hx) (xor_lt ht hx) h)
theorem stp_inj_right {s x y : Nat} (hs : s < 4294967296) (hx : x < 4294967296) (hy : y < 4294967296) (h : stp s x = stp s y) : x = y := xor_inj_right (mul_inj (xor_lt hs hx) (xor_lt hs hy) h)
theorem fnv_inj : ∀ (l : List Int) (s t : Nat), Byt l → s < 4294967296 → t < 4294967296 → fnv s l = fnv t l → s = t
  | [], s, t, _, _, _, h => h
  | x :: r, s, t, hb, hs, ht, h => by
    have hx := hb x (by simp)
    have h2 := fnv_inj r _ _ (fun y hy => hb y (List.mem_cons_of_mem _ hy)) (stp_lt _ _) (stp_lt _ _) h
    exact stp_inj_left hs ht (by omega) h2
theorem sum_set {p : List Int} (hb : Byt p) {i : Nat} (hi : i < p.length) {y : Int} (h0 : 0 ≤ y) (h1 : y ≤ 255) (hne : y ≠ p[i]) : sum (p.set i y) ≠ sum p := by
  intro h
  have e1 : p.set i y = p.take i ++ y :: p.drop (i + 1) := List.set_eq_take_append_cons_drop .. |>.trans (by rw [if_pos hi])
  have e2 : p = p.take i ++ p[i] :: p.drop (i + 1) := by rw [List.getElem_cons_drop, List.take_append_drop]
  have hx := hb p[i] (List.getElem_mem hi)
  unfold sum at h
  rw [e1] at h
  have h2 : fnv 2166136261 p = fnv 2166136261 (p.take i ++ p[i] :: p.drop (i + 1)) := by rw [← e2]
  rw [h2, fnv_append, fnv_append] at h
  have hs := fnv_lt (p.take i) 2166136261 (by decide)
  generalize fnv 2166136261 (p.take i) = s at *
  have h3 := fnv_inj (p.drop (i + 1)) _ _ (hb.drop _) (stp_lt _ _) (stp_lt _ _) h
  have h4 := stp_inj_right hs (by omega) (by omega) h3
  omega
theorem be4_inj {s t : Nat} (hs : s < 4294967296) (ht : t < 4294967296) (h : be4 s = be4 t) : s = t := by
  unfold be4 at h
  simp only [List.cons.injEq, and_true] at h
  omega
/-- One byte of the checksum or of the payload is another one: the checksum tells. -/
theorem rNext_damaged (p : List Int) (hb : Byt p) (hp : p.length ≤ 65536) (i : Nat) (hi0 : (enc (code (p.length : Int))).length ≤ i) (hi : i < (wrapF p).length) (y : Int) (h0 : 0 ≤ y) (h1 : y ≤ 255) (hne : y ≠ (wrapF p)[i]) (r : List Int) :
    rNext ((wrapF p).set i y ++ r) 0 = ([], 0, 4) := by
  have hw := wrapF_len p
  generalize hE : (enc (code (p.length : Int))).length = E at *
  by_cases h : i < E + 4
  · have e : (wrapF p).set i y ++ r = [] ++ (enc (code (p.length : Int)) ++ ((be4 (sum p)).set (i - E) y ++ (p ++ r))) := by
      unfold wrapF
      rw [List.set_append_right _ _ (by omega), hE, List.set_append_left _ _ (by rw [be4_length]; omega)]
      simp
    rw [e]
    have h2 := rNext_at [] ((be4 (sum p)).set (i - E) y) p r (by rw [List.length_set]; rfl) hp
    rw [if_neg] at h2
    · exact h2
    · intro he
      have h3 : (be4 (sum p))[i - E]? = some y := by
        rw [← he, List.getElem?_set_self (by rw [be4_length]; omega)]
      apply hne
      have h4 : (wrapF p)[i]? = some y := by
        unfold wrapF
        rw [List.getElem?_append_right (by omega), hE, List.getElem?_append_left (by rw [be4_length]; omega), h3]
      rw [List.getElem?_eq_getElem hi] at h4
      exact (Option.some.inj h4).symm
  · have hpi : i - E - 4 < p.length := by omega
    have e : (wrapF p).set i y ++ r = [] ++ (enc (code ((p.set (i - E - 4) y).length : Int)) ++ (be4 (sum p) ++ (p.set (i - E - 4) y ++ r))) := by
      rw [List.length_set]
      unfold wrapF
      rw [List.set_append_right _ _ (by omega), hE, List.set_append_right _ _ (by rw [be4_length]; omega), be4_length]
      simp
    rw [e]
    have h2 := rNext_at [] (be4 (sum p)) (p.set (i - E - 4) y) r rfl (by rw [List.length_set]; exact hp)
    rw [if_neg] at h2
    · exact h2
    · intro he
      refine sum_set hb hpi h0 h1 ?_ (be4_inj (sum_lt _) (sum_lt _) he.symm)
      intro hy
      apply hne
      have h4 : (wrapF p)[i]? = some y := by
        unfold wrapF
        rw [List.getElem?_append_right (by omega), hE, List.getElem?_append_right (by rw [be4_length]; omega), be4_length, List.getElem?_eq_getElem hpi, hy]
      rw [List.getElem?_eq_getElem hi] at h4
      exact (Option.some.inj h4).symm
end Go.Proofs.Ytkklehfcadkikaa.Sp
