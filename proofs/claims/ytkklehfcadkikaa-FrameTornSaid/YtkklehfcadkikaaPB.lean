/- Plain facts on numbers, bits, bytes: frames and records; no program in sight. -/
import Derived.Test.YtkklehfcadkikaaPA

set_option linter.unusedVariables false
set_option linter.unusedSimpArgs false
namespace Go.Proofs.Ytkklehfcadkikaa.EVT
open Go Go.EV


def stp (s x : Nat) : Nat := ((s ^^^ x) * 16777619) % 4294967296
def fnv : Nat → List UInt8 → Nat
  | s, [] => s
  | s, x :: r => fnv (stp s x.toNat) r
def sum (l : List UInt8) : Nat := fnv 2166136261 l
theorem stp_lt (s x : Nat) : stp s x < 4294967296 := Nat.mod_lt _ (by decide)
theorem fnv_lt : ∀ (l : List UInt8) (s : Nat), s < 4294967296 → fnv s l < 4294967296
  | [], s, h => h
  | x :: r, s, h => fnv_lt r _ (stp_lt _ _)
theorem sum_lt (l : List UInt8) : sum l < 4294967296 := fnv_lt l _ (by decide)
theorem fnv_append : ∀ (a b : List UInt8) (s : Nat), fnv s (a ++ b) = fnv (fnv s a) b
  | [], b, s => rfl
  | x :: a, b, s => fnv_append a b _
theorem xor_lt {s x : Nat} (hs : s < 4294967296) (hx : x < 4294967296) : s ^^^ x < 4294967296 := Nat.xor_lt_two_pow (n := 32) hs hx
theorem frame_step {s x : Nat} (hs : s < 4294967296) (hx : x ≤ 255) : (Go.bits .xor .u32 (s : Int) ((x : Int) % 4294967296) * 16777619) % 4294967296 = ((stp s x : Nat) : Int) := by
  have e : (x : Int) % 4294967296 = (x : Int) := by omega
  rw [e, bits_xor_nat .u32 32 (by decide) wraps_u32 s x (by omega) (by omega)]
  unfold stp
  generalize s ^^^ x = y
  omega
theorem ref4_step {s x : Nat} (hs : s < 4294967296) (hx : x ≤ 255) : Int.tmod (IntKind.u64.wrap (Go.bits .xor .u64 (s : Int) (IntKind.u64.wrap (x : Int)) * 16777619)) 4294967296 = ((stp s x : Nat) : Int) := by
  have h := xor_lt hs (x := x) (by omega)
  rw [u64w (n := (x : Int)) (by omega) (by omega), bits_xor_nat .u64 64 (by decide) wraps_u64 s x (by omega) (by omega), u64w (by omega) (by omega), tmod_nn (by omega)]
  unfold stp
  generalize s ^^^ x = y at *
  omega
/-! ### frames -/
def be4 (s : Nat) : List UInt8 := [UInt8.ofNat (s / 16777216 % 256), UInt8.ofNat (s / 65536 % 256), UInt8.ofNat (s / 256 % 256), UInt8.ofNat (s % 256)]
def wrapF (b : List UInt8) : List UInt8 := enc (code (b.length : Int)) ++ (be4 (sum b) ++ b)
theorem wrapF_len (b : List UInt8) : (wrapF b).length = (enc (code (b.length : Int))).length + 4 + b.length := by
  unfold wrapF; simp only [List.length_append]; simp [be4]; omega
def sizeF (n : Int) : Int := if n < 0 ∨ n > 65536 then 0 else ((enc (code n)).length : Int) + 4 + n
theorem sizeF_len (b : List UInt8) (h : b.length ≤ 65536) : sizeF (b.length : Int) = ((wrapF b).length : Int) := by
  unfold sizeF; rw [if_neg (by omega), wrapF_len]; omega

/-! ### reading a frame -/
def pay (b : List UInt8) (q n : Int) : List UInt8 := cut b (q + 4) n
def rNext (b : List UInt8) (p : Int) : List UInt8 × Int × Int :=
  if (rNum b p).2.2 = 0 then
    if (rNum b p).1 < 0 then ([], 0, 2) else if (rNum b p).1 > 65536 then ([], 0, 5) else if (b.length : Int) - (rNum b p).2.1 < 4 + (rNum b p).1 then ([], 0, 3)
    else if cut b (rNum b p).2.1 4 = be4 (sum (pay b (rNum b p).2.1 (rNum b p).1)) then (pay b (rNum b p).2.1 (rNum b p).1, (rNum b p).2.1 + 4 + (rNum b p).1, 0) else ([], 0, 4)
  else ([], 0, (rNum b p).2.2)
theorem cut_length {b : List UInt8} {q n : Int} (h0 : 0 ≤ q) (h1 : 0 ≤ n) (h2 : q + n ≤ (b.length : Int)) : (cut b q n).length = n.toNat := by
  unfold cut; rw [List.length_drop, List.length_take]; omega
theorem cut_byt {b : List UInt8} (hb : Byt b) (q n : Int) : Byt (cut b q n) := trivial
theorem be4_iff {c : List UInt8} (hl : c.length = 4) {s : Nat} (hs : s < 4294967296) :
    (((c.getD 0 0).toNat * 16777216 + (c.getD 1 0).toNat * 65536 + (c.getD 2 0).toNat * 256 + (c.getD 3 0).toNat : Nat) = s) ↔ c = be4 s := by
  match c, hl with
  | [a, b, d, e], _ =>
    have ha := u8lt a; have hb := u8lt b; have hd := u8lt d; have he := u8lt e
    have r0 : [a, b, d, e].getD 0 0 = a := rfl
    have r1 : [a, b, d, e].getD 1 0 = b := rfl
    have r2 : [a, b, d, e].getD 2 0 = d := rfl
    have r3 : [a, b, d, e].getD 3 0 = e := rfl
    rw [r0, r1, r2, r3]
    unfold be4
    simp only [List.cons.injEq, and_true]
    constructor
    · intro h
      exact ⟨u8ext (by rw [u8n (by omega)]; omega), u8ext (by rw [u8n (by omega)]; omega), u8ext (by rw [u8n (by omega)]; omega), u8ext (by rw [u8n (by omega)]; omega)⟩
    · rintro ⟨h1, h2, h3, h4⟩
      have k1 := congrArg UInt8.toNat h1; have k2 := congrArg UInt8.toNat h2; have k3 := congrArg UInt8.toNat h3; have k4 := congrArg UInt8.toNat h4
      rw [u8n (by omega)] at k1 k2 k3 k4
      omega
theorem cut_split {b : List UInt8} {p q n : Int} (h0 : 0 ≤ p) (h1 : p ≤ q) (h2 : 0 ≤ n) : cut b p (q - p + n) = cut b p (q - p) ++ cut b q n := by
  unfold cut
  rw [show (p + (q - p + n)).toNat = q.toNat + n.toNat from by omega, show (p + (q - p)).toNat = q.toNat from by omega, show (q + n).toNat = q.toNat + n.toNat from by omega]
  by_cases h : q.toNat ≤ b.length
  · rw [List.take_add, List.drop_append, List.length_take, List.drop_append]
    rw [show p.toNat - min q.toNat b.length = 0 from by omega]
    rw [List.drop_zero]
    congr 1
    rw [List.drop_of_length_le (l := List.take q.toNat b) (by rw [List.length_take]; omega), List.nil_append, List.length_take, show q.toNat - min q.toNat b.length = 0 from by omega, List.drop_zero]
  · rw [List.take_of_length_le (i := q.toNat) (by omega), List.take_of_length_le (by omega), List.drop_of_length_le (i := q.toNat) (by omega), List.append_nil]

theorem cut_mid (l c r : List UInt8) {q n : Int} (hq : q = (l.length : Int)) (hn : n = (c.length : Int)) : cut (l ++ (c ++ r)) q n = c := by
  subst hq; subst hn
  unfold cut
  rw [show ((l.length : Int) + (c.length : Int)).toNat = l.length + c.length from by omega, Int.toNat_natCast]
  rw [List.take_append, List.drop_append, List.take_of_length_le (by omega), List.drop_of_length_le (by omega), List.nil_append, Nat.add_sub_cancel_left, Nat.sub_self, List.drop_zero, List.take_left]
theorem be4_length (s : Nat) : (be4 s).length = 4 := rfl
/-- A frame, or what looks like one (any four bytes in the checksum's place), read at its place. -/
theorem rNext_at (l c p r : List UInt8) (hc : c.length = 4) (hp : p.length ≤ 65536) :
    rNext (l ++ (enc (code (p.length : Int)) ++ (c ++ (p ++ r)))) (l.length : Int) = if c = be4 (sum p) then (p, (l.length : Int) + ((enc (code (p.length : Int))).length : Int) + 4 + (p.length : Int), 0) else ([], 0, 4) := by
  have h1 := rNum_at l (p.length : Int) (c ++ (p ++ r)) (by omega) (by omega)
  unfold rNext
  rw [h1]
  dsimp only
  have e1 : l ++ (enc (code (p.length : Int)) ++ (c ++ (p ++ r))) = (l ++ enc (code (p.length : Int))) ++ (c ++ (p ++ r)) := by simp
  have e2 : l ++ (enc (code (p.length : Int)) ++ (c ++ (p ++ r))) = (l ++ enc (code (p.length : Int)) ++ c) ++ (p ++ r) := by simp
  have c1 : cut (l ++ (enc (code (p.length : Int)) ++ (c ++ (p ++ r)))) ((l.length : Int) + ((enc (code (p.length : Int))).length : Int)) 4 = c := by
    rw [e1]; exact cut_mid _ _ _ (by simp) (by rw [hc]; rfl)
  have c2 : pay (l ++ (enc (code (p.length : Int)) ++ (c ++ (p ++ r)))) ((l.length : Int) + ((enc (code (p.length : Int))).length : Int)) (p.length : Int) = p := by
    unfold pay
    rw [e2]; exact cut_mid _ _ _ (by simp [hc]; omega) rfl
  rw [c1, c2, if_pos rfl, if_neg (by omega), if_neg (by omega), if_neg (by simp only [List.length_append]; omega)]
theorem rNext_wrap (l p r : List UInt8) (hp : p.length ≤ 65536) : rNext (l ++ (wrapF p ++ r)) (l.length : Int) = (p, (l.length : Int) + ((wrapF p).length : Int), 0) := by
  have h := rNext_at l (be4 (sum p)) p r rfl hp
  rw [if_pos rfl] at h
  have e : l ++ (wrapF p ++ r) = l ++ (enc (code (p.length : Int)) ++ (be4 (sum p) ++ (p ++ r))) := by simp [wrapF]
  rw [e, h, wrapF_len]
  simp only [Prod.mk.injEq, true_and, and_true]
  omega
theorem rNext_ok {b : List UInt8} {p q : Int} {x : List UInt8} (hb : Byt b) (h : rNext b p = (x, q, 0)) :
    0 ≤ p ∧ p < q ∧ q ≤ (b.length : Int) ∧ x.length ≤ 65536 ∧ q = p + ((wrapF x).length : Int) ∧ (b.drop p.toNat).take (wrapF x).length = wrapF x ∧ Byt x := by
  unfold rNext at h
  by_cases h0 : (rNum b p).2.2 = 0
  · rw [if_pos h0] at h
    by_cases h1 : (rNum b p).1 < 0
    · rw [if_pos h1] at h; simp at h
    · rw [if_neg h1] at h
      by_cases h2 : (rNum b p).1 > 65536
      · rw [if_pos h2] at h; simp at h
      · rw [if_neg h2] at h
        by_cases h3 : (b.length : Int) - (rNum b p).2.1 < 4 + (rNum b p).1
        · rw [if_pos h3] at h; simp at h
        · rw [if_neg h3] at h
          by_cases h4 : cut b (rNum b p).2.1 4 = be4 (sum (pay b (rNum b p).2.1 (rNum b p).1))
          · rw [if_pos h4] at h
            simp only [Prod.mk.injEq, and_true] at h
            obtain ⟨rfl, rfl⟩ := h
            obtain ⟨g1, g2, g3, g4, g5, g6, g7⟩ := rNum_ok (n := (rNum b p).1) (q := (rNum b p).2.1) hb (by rw [← h0])
            generalize (rNum b p).1 = n at *
            generalize (rNum b p).2.1 = q at *
            have hl : (pay b q n).length = n.toNat := cut_length (by omega) (by omega) (by omega)
            have hw := wrapF_len (pay b q n)
            rw [hl, show ((n.toNat : Nat) : Int) = n from by omega] at hw
            refine ⟨g1, by omega, by omega, by omega, by omega, ?_, cut_byt hb _ _⟩
            have e0 : (b.drop p.toNat).take (wrapF (pay b q n)).length = cut b p (q - p + (4 + n)) := by
              unfold cut; rw [List.drop_take]; congr 1; omega
            have e1 : cut b p (q - p) = enc (code n) := by
              unfold cut
              rw [← g7, List.drop_take]; congr 1; omega
            have e2 : cut b q (4 + n) = cut b q 4 ++ pay b q n := by
              have := cut_split (b := b) (p := q) (q := q + 4) (n := n) (by omega) (by omega) (by omega)
              rw [show q + 4 - q = 4 from by omega] at this
              exact this
            rw [e0, cut_split (by omega) (by omega) (by omega), e1, e2, h4]
            unfold wrapF
            rw [hl, show ((n.toNat : Nat) : Int) = n from by omega]
          · rw [if_neg h4] at h; simp at h
  · rw [if_neg h0] at h
    simp only [Prod.mk.injEq] at h
    exact absurd h.2.2 h0
theorem rNext_zero {b : List UInt8} {p : Int} (h : (rNext b p).2.2 ≠ 0) : (rNext b p).1 = [] ∧ (rNext b p).2.1 = 0 := by
  unfold rNext at h ⊢
  by_cases h0 : (rNum b p).2.2 = 0
  · simp only [if_pos h0] at h ⊢
    by_cases h1 : (rNum b p).1 < 0
    · simp only [if_pos h1, and_self]
    · simp only [if_neg h1] at h ⊢
      by_cases h2 : (rNum b p).1 > 65536
      · simp only [if_pos h2, and_self]
      · simp only [if_neg h2] at h ⊢
        by_cases h3 : (b.length : Int) - (rNum b p).2.1 < 4 + (rNum b p).1
        · simp only [if_pos h3, and_self]
        · simp only [if_neg h3] at h ⊢
          by_cases h4 : cut b (rNum b p).2.1 4 = be4 (sum (pay b (rNum b p).2.1 (rNum b p).1))
          · simp only [if_pos h4] at h; exact absurd rfl h
          · simp only [if_neg h4, and_self]
  · simp only [if_neg h0, and_self]
/-- A frame that ends too early is torn. -/
theorem rNext_torn (l p : List UInt8) (m : Nat) (hp : p.length ≤ 65536) (hm : m < (wrapF p).length) : rNext (l ++ (wrapF p).take m) (l.length : Int) = ([], 0, 3) := by
  rw [wrapF_len] at hm
  unfold rNext
  by_cases h : m < (enc (code (p.length : Int))).length
  · have e : (wrapF p).take m = (enc (code (p.length : Int))).take m := by unfold wrapF; rw [List.take_append_of_le_length (by omega)]
    have h2 : rNum (l ++ (enc (code (p.length : Int))).take m) (l.length : Int) = (0, 0, 3) := by
      rw [rNum_in (by omega) (by rw [List.length_append]; omega), Int.toNat_natCast, List.drop_left]
      have := dec_torn (code (p.length : Int)) 0 0 m (by simpa using code_lt (n := (p.length : Int)) (by omega) (by omega)) (.inl rfl) h
      simp [this, fin]
    rw [e, h2]
    rfl
  · have e : (wrapF p).take m = enc (code (p.length : Int)) ++ (be4 (sum p) ++ p).take (m - (enc (code (p.length : Int))).length) := by unfold wrapF; rw [List.take_append, List.take_of_length_le (by omega)]
    rw [e, rNum_at l (p.length : Int) _ (by omega) (by omega)]
    dsimp only
    rw [if_pos rfl, if_neg (by omega), if_neg (by omega), if_pos (by simp only [List.length_append, List.length_take, be4_length]; omega)]


def ck2 (b : Bool) (n : Int) (v : List UInt8) : Int := if b = true then 5 else if n = 1 then 0 else if v = [] then 0 else 28
def ck1 (b : Bool) (n : Int) (s v : List UInt8) : Int := if b = true then 10 else if s = [] then 1 else ck2 (decide ((s.length : Int) > 64 ∨ (v.length : Int) > 4096)) n v
def ck0 (b : Bool) (n : Int) (s v : List UInt8) : Int := if b = true then 1 else ck1 (decide (¬ (n = 1 ∨ n = 2 ∨ n = 3))) n s v
def chk (o n : Int) (s v : List UInt8) : Int := ck0 (decide (o < 0 ∨ o > 1099511627776)) n s v
theorem chk_zero {o n : Int} {s v : List UInt8} : chk o n s v = 0 ↔ 0 ≤ o ∧ o ≤ 1099511627776 ∧ (n = 1 ∨ n = 2 ∨ n = 3) ∧ s ≠ [] ∧ s.length ≤ 64 ∧ v.length ≤ 4096 ∧ (n = 1 ∨ v = []) := by
  unfold chk ck0
  by_cases h0 : o < 0 ∨ o > 1099511627776
  · rw [if_pos (by simpa using h0)]; exact ⟨fun h => absurd h (by decide), fun h => by omega⟩
  rw [if_neg (by simpa using h0)]
  unfold ck1
  by_cases h1 : n = 1 ∨ n = 2 ∨ n = 3
  · rw [if_neg (fun hh => (of_decide_eq_true hh) h1)]
    by_cases h2 : s = []
    · rw [if_pos h2]; exact ⟨fun h => absurd h (by decide), fun h => absurd h2 h.2.2.2.1⟩
    rw [if_neg h2]
    unfold ck2
    by_cases h3 : (s.length : Int) > 64 ∨ (v.length : Int) > 4096
    · rw [if_pos (by simpa using h3)]; exact ⟨fun h => absurd h (by decide), fun h => by omega⟩
    rw [if_neg (by simpa using h3)]
    by_cases h4 : n = 1
    · rw [if_pos h4]; exact ⟨fun _ => ⟨by omega, by omega, h1, h2, by omega, by omega, .inl h4⟩, fun _ => rfl⟩
    rw [if_neg h4]
    by_cases h5 : v = []
    · rw [if_pos h5]; exact ⟨fun _ => ⟨by omega, by omega, h1, h2, by omega, by omega, .inr h5⟩, fun _ => rfl⟩
    rw [if_neg h5]; exact ⟨fun h => absurd h (by decide), fun h => by exact absurd h.2.2.2.2.2.2 (fun hh => hh.elim h4 h5)⟩
  · rw [if_pos (decide_eq_true h1)]; exact ⟨fun h => absurd h (by decide), fun h => absurd h.2.2.1 h1⟩
theorem chk_3 {o n : Int} {s v : List UInt8} : chk o n s v ≠ 3 ∧ chk o n s v ≠ 4 := by
  unfold chk ck0 ck1 ck2
  repeat' split
  all_goals decide

/-! ### the framed form -/
def pld (o n : Int) (s v : List UInt8) : List UInt8 := enc (code o) ++ (enc (code n) ++ (cat s ++ cat v))
theorem pld_len {o n : Int} {s v : List UInt8} (h : chk o n s v = 0) : 5 ≤ (pld o n s v).length ∧ (pld o n s v).length ≤ 4200 := by
  obtain ⟨h0, h1, h2, h3, h4, h5, h6⟩ := chk_zero.1 h
  have hs : 1 ≤ s.length := by
    rcases Nat.eq_zero_or_pos s.length with hz | hz
    · exact absurd (List.eq_nil_of_length_eq_zero hz) h3
    · exact hz
  have a1 := enc_pos (code o); have a2 := enc_pos (code n); have a3 := enc_pos (code (s.length : Int)); have a4 := enc_pos (code (v.length : Int))
  have b1 := enc_len10 (code_lt (n := o) (by omega) (by omega)); have b2 := enc_len10 (code_lt (n := n) (by omega) (by omega)); have b3 := cat_le s (by omega); have b4 := cat_le v (by omega)
  have c3 := cat_len s; have c4 := cat_len v
  unfold pld
  simp only [List.length_append]
  omega
/-- The framed form of a valid record. -/
def rec_ (o n : Int) (s v : List UInt8) : List UInt8 := wrapF (pld o n s v)
theorem rec_len {o n : Int} {s v : List UInt8} (h : chk o n s v = 0) : 10 ≤ (rec_ o n s v).length ∧ (rec_ o n s v).length ≤ 4214 := by
  have h1 := pld_len h
  have h2 := wrapF_len (pld o n s v)
  have h3 := enc_pos (code ((pld o n s v).length : Int)); have h4 := enc_len10 (code_lt (n := ((pld o n s v).length : Int)) (by omega) (by omega))
  unfold rec_
  omega
def rEnc (o n : Int) (s v : List UInt8) : List UInt8 × Int := if chk o n s v = 0 then (rec_ o n s v, 0) else ([], chk o n s v)
/-! ### reading a record -/
def rDec (b : List UInt8) (p : Int) : Int × Int × List UInt8 × List UInt8 × Int × Int :=
  if (rNext b p).2.2 = 0 then
    if (rNum (rNext b p).1 0).2.2 = 0 then
      if (rNum (rNext b p).1 (rNum (rNext b p).1 0).2.1).2.2 = 0 then
        if (rText (rNext b p).1 (rNum (rNext b p).1 (rNum (rNext b p).1 0).2.1).2.1 64).2.2 = 0 then
          if (rText (rNext b p).1 (rText (rNext b p).1 (rNum (rNext b p).1 (rNum (rNext b p).1 0).2.1).2.1 64).2.1 4096).2.2 = 0 then
            if (rText (rNext b p).1 (rText (rNext b p).1 (rNum (rNext b p).1 (rNum (rNext b p).1 0).2.1).2.1 64).2.1 4096).2.1 < ((rNext b p).1.length : Int) then (0, 0, ([] : List UInt8), ([] : List UInt8), 0, 2)
            else if chk (rNum (rNext b p).1 0).1 (rNum (rNext b p).1 (rNum (rNext b p).1 0).2.1).1 (rText (rNext b p).1 (rNum (rNext b p).1 (rNum (rNext b p).1 0).2.1).2.1 64).1 (rText (rNext b p).1 (rText (rNext b p).1 (rNum (rNext b p).1 (rNum (rNext b p).1 0).2.1).2.1 64).2.1 4096).1 = 0
              then ((rNum (rNext b p).1 0).1, (rNum (rNext b p).1 (rNum (rNext b p).1 0).2.1).1, (rText (rNext b p).1 (rNum (rNext b p).1 (rNum (rNext b p).1 0).2.1).2.1 64).1, (rText (rNext b p).1 (rText (rNext b p).1 (rNum (rNext b p).1 (rNum (rNext b p).1 0).2.1).2.1 64).2.1 4096).1, (rNext b p).2.1, 0)
              else (0, 0, ([] : List UInt8), ([] : List UInt8), 0, chk (rNum (rNext b p).1 0).1 (rNum (rNext b p).1 (rNum (rNext b p).1 0).2.1).1 (rText (rNext b p).1 (rNum (rNext b p).1 (rNum (rNext b p).1 0).2.1).2.1 64).1 (rText (rNext b p).1 (rText (rNext b p).1 (rNum (rNext b p).1 (rNum (rNext b p).1 0).2.1).2.1 64).2.1 4096).1)
          else (0, 0, ([] : List UInt8), ([] : List UInt8), 0, (rText (rNext b p).1 (rText (rNext b p).1 (rNum (rNext b p).1 (rNum (rNext b p).1 0).2.1).2.1 64).2.1 4096).2.2)
        else (0, 0, ([] : List UInt8), ([] : List UInt8), 0, (rText (rNext b p).1 (rNum (rNext b p).1 (rNum (rNext b p).1 0).2.1).2.1 64).2.2)
      else (0, 0, ([] : List UInt8), ([] : List UInt8), 0, (rNum (rNext b p).1 (rNum (rNext b p).1 0).2.1).2.2)
    else (0, 0, ([] : List UInt8), ([] : List UInt8), 0, (rNum (rNext b p).1 0).2.2)
  else (0, 0, ([] : List UInt8), ([] : List UInt8), 0, (rNext b p).2.2)
theorem rNext_byt {b : List UInt8} (hb : Byt b) (p : Int) : Byt (rNext b p).1 ∧ (rNext b p).1.length ≤ 65536 := by
  by_cases h : (rNext b p).2.2 = 0
  · obtain ⟨g1, g2, g3, g4, g5, g6, g7⟩ := rNext_ok (p := p) (x := (rNext b p).1) (q := (rNext b p).2.1) hb (Prod.ext rfl (Prod.ext rfl h))
    exact ⟨g7, g4⟩
  · rw [(rNext_zero h).1]; exact ⟨trivial, by simp⟩
theorem rDec_pld {b : List UInt8} {p q : Int} {o n : Int} {s v : List UInt8} (hc : chk o n s v = 0) (h : rNext b p = (pld o n s v, q, 0)) : rDec b p = (o, n, s, v, q, 0) := by
  obtain ⟨h0, h1, h2, h3, h4, h5, h6⟩ := chk_zero.1 hc
  have e1 : rNum (pld o n s v) 0 = (o, ((enc (code o)).length : Int), 0) := by
    have := rNum_at [] o (enc (code n) ++ (cat s ++ cat v)) (by omega) (by omega)
    simpa [pld] using this
  have e2 : rNum (pld o n s v) ((enc (code o)).length : Int) = (n, ((enc (code o)).length : Int) + ((enc (code n)).length : Int), 0) := rNum_at (enc (code o)) n (cat s ++ cat v) (by omega) (by omega)
  have e3 : rText (pld o n s v) (((enc (code o)).length : Int) + ((enc (code n)).length : Int)) 64 = (s, ((enc (code o)).length : Int) + ((enc (code n)).length : Int) + ((cat s).length : Int), 0) := by
    have := rText_at (enc (code o) ++ enc (code n)) s (cat v) 64 (by omega) (by omega)
    simpa [pld, Int.natCast_add] using this
  have e4 : rText (pld o n s v) (((enc (code o)).length : Int) + ((enc (code n)).length : Int) + ((cat s).length : Int)) 4096 = (v, ((enc (code o)).length : Int) + ((enc (code n)).length : Int) + ((cat s).length : Int) + ((cat v).length : Int), 0) := by
    have := rText_at (enc (code o) ++ (enc (code n) ++ cat s)) v [] 4096 (by omega) (by omega)
    simpa [pld, Int.natCast_add, Int.add_assoc] using this
  have hl : ((pld o n s v).length : Int) = ((enc (code o)).length : Int) + ((enc (code n)).length : Int) + ((cat s).length : Int) + ((cat v).length : Int) := by unfold pld; simp only [List.length_append]; omega
  unfold rDec
  rw [h]
  dsimp only
  rw [if_pos rfl, e1]
  dsimp only
  rw [if_pos rfl, e2]
  dsimp only
  rw [if_pos rfl, e3]
  dsimp only
  rw [if_pos rfl, e4]
  dsimp only
  rw [if_pos rfl, if_neg (by omega), if_pos hc]
theorem rDec_at (l r : List UInt8) {o n : Int} {s v : List UInt8} (hc : chk o n s v = 0) : rDec (l ++ (rec_ o n s v ++ r)) (l.length : Int) = (o, n, s, v, (l.length : Int) + ((rec_ o n s v).length : Int), 0) :=
  rDec_pld hc (rNext_wrap l (pld o n s v) r (by have := pld_len hc; omega))
theorem rDec_err {b : List UInt8} {p : Int} (h : (rNext b p).2.2 ≠ 0) : rDec b p = (0, 0, ([] : List UInt8), ([] : List UInt8), 0, (rNext b p).2.2) := by unfold rDec; rw [if_neg h]
theorem rDec_zero {b : List UInt8} {p : Int} (h : (rDec b p).2.2.2.2.2 ≠ 0) : rDec b p = (0, 0, ([] : List UInt8), ([] : List UInt8), 0, (rDec b p).2.2.2.2.2) := by
  revert h
  unfold rDec
  repeat' split
  all_goals first | (intro h; rfl) | (intro h; exact absurd rfl h)
theorem take_app {b a c : List UInt8} {i j : Nat} (h1 : (b.drop i).take a.length = a) (h2 : (b.drop (i + a.length)).take c.length = c) : (b.drop i).take (a.length + c.length) = a ++ c := by
  rw [List.take_add, h1, List.drop_drop, h2]
theorem rDec_ok {b : List UInt8} {p o n q : Int} {s v : List UInt8} (hb : Byt b) (h : rDec b p = (o, n, s, v, q, 0)) :
    0 ≤ p ∧ q ≤ (b.length : Int) ∧ chk o n s v = 0 ∧ q = p + ((rec_ o n s v).length : Int) ∧ (b.drop p.toNat).take (rec_ o n s v).length = rec_ o n s v := by
  by_cases h0 : (rNext b p).2.2 = 0
  · obtain ⟨g1, g2, g3, g4, g5, g6, g7⟩ := rNext_ok (p := p) (x := (rNext b p).1) (q := (rNext b p).2.1) hb (Prod.ext rfl (Prod.ext rfl h0))
    unfold rDec at h
    rw [if_pos h0] at h
    generalize (rNext b p).1 = x at *
    generalize (rNext b p).2.1 = q' at *
    by_cases h1 : (rNum x 0).2.2 = 0
    · rw [if_pos h1] at h
      by_cases h2 : (rNum x (rNum x 0).2.1).2.2 = 0
      · rw [if_pos h2] at h
        by_cases h3 : (rText x (rNum x (rNum x 0).2.1).2.1 64).2.2 = 0
        · rw [if_pos h3] at h
          by_cases h4 : (rText x (rText x (rNum x (rNum x 0).2.1).2.1 64).2.1 4096).2.2 = 0
          · rw [if_pos h4] at h
            by_cases h5 : (rText x (rText x (rNum x (rNum x 0).2.1).2.1 64).2.1 4096).2.1 < (x.length : Int)
            · rw [if_pos h5] at h; simp at h
            · rw [if_neg h5] at h
              by_cases h6 : chk (rNum x 0).1 (rNum x (rNum x 0).2.1).1 (rText x (rNum x (rNum x 0).2.1).2.1 64).1 (rText x (rText x (rNum x (rNum x 0).2.1).2.1 64).2.1 4096).1 = 0
              · rw [if_pos h6] at h
                simp only [Prod.mk.injEq] at h
                obtain ⟨k1, k2, k3, k4, k5, _⟩ := h
                obtain ⟨a1, a2, a3, a4, a5, a6, a7⟩ := rNum_ok (p := 0) (n := (rNum x 0).1) (q := (rNum x 0).2.1) g7 (Prod.ext rfl (Prod.ext rfl h1))
                obtain ⟨b1, b2, b3, b4, b5, b6, b7⟩ := rNum_ok (n := (rNum x (rNum x 0).2.1).1) (q := (rNum x (rNum x 0).2.1).2.1) g7 (Prod.ext rfl (Prod.ext rfl h2))
                obtain ⟨c1, c2, c3, c4, c5, c6⟩ := rText_ok (s := (rText x (rNum x (rNum x 0).2.1).2.1 64).1) (q := (rText x (rNum x (rNum x 0).2.1).2.1 64).2.1) g7 (Prod.ext rfl (Prod.ext rfl h3))
                obtain ⟨d1, d2, d3, d4, d5, d6⟩ := rText_ok (s := (rText x (rText x (rNum x (rNum x 0).2.1).2.1 64).2.1 4096).1) (q := (rText x (rText x (rNum x (rNum x 0).2.1).2.1 64).2.1 4096).2.1) g7 (Prod.ext rfl (Prod.ext rfl h4))
                generalize (rText x (rText x (rNum x (rNum x 0).2.1).2.1 64).2.1 4096).1 = y4 at *
                generalize (rText x (rText x (rNum x (rNum x 0).2.1).2.1 64).2.1 4096).2.1 = q4 at *
                generalize (rText x (rNum x (rNum x 0).2.1).2.1 64).1 = y3 at *
                generalize (rText x (rNum x (rNum x 0).2.1).2.1 64).2.1 = q3 at *
                generalize (rNum x (rNum x 0).2.1).1 = y2 at *
                generalize (rNum x (rNum x 0).2.1).2.1 = q2 at *
                generalize (rNum x 0).1 = y1 at *
                generalize (rNum x 0).2.1 = q1 at *
                subst k1; subst k2; subst k3; subst k4; subst k5
                have e : x = pld y1 y2 y3 y4 := by
                  rw [show (0 : Int).toNat = 0 from rfl] at a7
                  rw [show q1.toNat = 0 + (enc (code y1)).length from by omega] at b7
                  rw [show q2.toNat = 0 + (enc (code y1) ++ enc (code y2)).length from by rw [List.length_append]; omega] at c6
                  rw [show q3.toNat = 0 + (enc (code y1) ++ enc (code y2) ++ cat y3).length from by simp only [List.length_append]; omega] at d6
                  have t1 := take_app (j := 0) a7 b7
                  rw [← List.length_append] at t1
                  have t2 := take_app (j := 0) t1 c6
                  rw [← List.length_append] at t2
                  have t3 := take_app (j := 0) t2 d6
                  rw [← List.length_append, List.drop_zero, List.take_of_length_le (by simp only [List.length_append]; omega)] at t3
                  rw [t3]; simp [pld]
                subst e
                exact ⟨g1, g3, h6, g5, g6⟩
              · rw [if_neg h6] at h; simp only [Prod.mk.injEq] at h; exact absurd h.2.2.2.2.2 h6
          · rw [if_neg h4] at h; simp only [Prod.mk.injEq] at h; exact absurd h.2.2.2.2.2 h4
        · rw [if_neg h3] at h; simp only [Prod.mk.injEq] at h; exact absurd h.2.2.2.2.2 h3
      · rw [if_neg h2] at h; simp only [Prod.mk.injEq] at h; exact absurd h.2.2.2.2.2 h2
    · rw [if_neg h1] at h; simp only [Prod.mk.injEq] at h; exact absurd h.2.2.2.2.2 h1
  · rw [rDec_err h0] at h; simp only [Prod.mk.injEq] at h; exact absurd h.2.2.2.2.2 h0

def sNum (b : List UInt8) (p e : Int) : Int × Int × Int := if e = 0 then (if (rNum b p).2.2 = 0 then ((rNum b p).1, (rNum b p).2.1, e) else (0, p, (rNum b p).2.2)) else (0, p, e)
def sText (b : List UInt8) (p e lim : Int) : List UInt8 × Int × Int := if e = 0 then (if (rText b p lim).2.2 = 0 then ((rText b p lim).1, (rText b p lim).2.1, e) else (([] : List UInt8), p, (rText b p lim).2.2)) else (([] : List UInt8), p, e)
end Go.Proofs.Ytkklehfcadkikaa.EVT
