/- Plain facts on numbers, bits, bytes: segments; no program in sight. -/
import Derived.Test.YtkklehfcadkikaaPB

set_option linter.unusedVariables false
set_option linter.unusedSimpArgs false
namespace Go.Proofs.Ytkklehfcadkikaa.EVT
open Go Go.EV


/-- A record, as the typed layer has it. -/
abbrev Rec := Int × Int × List UInt8 × List UInt8
/-- A record without its offset: kind, key, value. -/
abbrev RV := Int × List UInt8 × List UInt8
/-- The bytes of records with the offsets o, o+1, .. -/
def segB : Int → List RV → List UInt8
  | _, [] => []
  | o, (n, s, v) :: r => rec_ o n s v ++ segB (o + 1) r
def okL : Int → List RV → Prop
  | _, [] => True
  | o, (n, s, v) :: r => chk o n s v = 0 ∧ okL (o + 1) r
def recL : Int → List RV → List Rec
  | _, [] => []
  | o, (n, s, v) :: r => ((o, n, s, v) : Rec) :: recL (o + 1) r
theorem recL_len : ∀ (L : List RV) (o : Int), (recL o L).length = L.length
  | [], _ => rfl
  | (_, _, _) :: r, o => by simp [recL, recL_len r]
theorem segB_len : ∀ (L : List RV) (o : Int), okL o L → 10 * L.length ≤ (segB o L).length
  | [], _, _ => by simp [segB]
  | (n, s, v) :: r, o, h => by
    have h1 := segB_len r (o + 1) h.2
    have h2 := rec_len h.1
    simp only [segB, List.length_append, List.length_cons]
    omega
theorem segB_app : ∀ (L M : List RV) (o : Int), segB o (L ++ M) = segB o L ++ segB (o + L.length) M
  | [], M, o => by simp [segB]
  | (n, s, v) :: r, M, o => by
    simp only [segB, List.cons_append, List.append_assoc, segB_app r M (o + 1), List.length_cons]
    rw [show o + 1 + (r.length : Int) = o + ((r.length + 1 : Nat) : Int) from by omega]
theorem okL_app : ∀ (L M : List RV) (o : Int), okL o (L ++ M) ↔ okL o L ∧ okL (o + L.length) M
  | [], M, o => by simp [okL]
  | (n, s, v) :: r, M, o => by
    simp only [okL, List.cons_append, okL_app r M (o + 1), List.length_cons]
    rw [show o + 1 + (r.length : Int) = o + ((r.length + 1 : Nat) : Int) from by omega, and_assoc]
theorem okL_at : ∀ (L : List RV) (o : Int) (i : Nat) (h : i < L.length), okL o L → chk (o + i) (L[i]).1 (L[i]).2.1 (L[i]).2.2 = 0
  | (n, s, v) :: r, o, 0, _, h => by simpa using h.1
  | (n, s, v) :: r, o, i + 1, h, hk => by
    have := okL_at r (o + 1) i (by simpa using h) hk.2
    rw [show o + ((i + 1 : Nat) : Int) = o + 1 + (i : Int) from by omega]
    simpa using this


/-! ### which segments are valid -/
def ckS (b : List UInt8) (nx : Int) : Nat → Int → Int → Int
  | 0, _, _ => 0
  | d + 1, n, p => if p < (b.length : Int) then (if (rDec b p).2.2.2.2.2 = 0 then (if (rDec b p).1 = n then ckS b nx d (n + 1) (rDec b p).2.2.2.2.1 else 22) else (rDec b p).2.2.2.2.2) else if nx = n then 0 else 1
theorem rDec_all {b : List UInt8} {p : Int} (h : (rDec b p).2.2.2.2.2 = 0) : rDec b p = ((rDec b p).1, (rDec b p).2.1, (rDec b p).2.2.1, (rDec b p).2.2.2.1, (rDec b p).2.2.2.2.1, 0) :=
  Prod.ext rfl (Prod.ext rfl (Prod.ext rfl (Prod.ext rfl (Prod.ext rfl h))))
theorem rDec_next {b : List UInt8} {p : Int} (hb : Byt b) (h : (rDec b p).2.2.2.2.2 = 0) : 0 ≤ p ∧ p + 10 ≤ (rDec b p).2.2.2.2.1 ∧ (rDec b p).2.2.2.2.1 ≤ (b.length : Int) ∧ 0 ≤ (rDec b p).1 ∧ (rDec b p).1 ≤ 1099511627776 := by
  obtain ⟨g1, g2, g3, g4, g5⟩ := rDec_ok hb (rDec_all h)
  have := rec_len g3
  obtain ⟨h0, h1, _⟩ := chk_zero.1 g3
  exact ⟨g1, by omega, g2, h0, h1⟩
def sChk (base nx : Int) (b : List UInt8) : Int := if base < 0 then 1 else if base > 1099511627776 then 1 else if (b.length : Int) > 65536 then 5 else ckS b nx (b.length + 1) base 0
theorem ckS_zero (b : List UInt8) (hb : Byt b) (nx : Int) : ∀ (d : Nat) (n p : Int), 0 ≤ p → p ≤ (b.length : Int) → (b.length : Int) - p < d → ckS b nx d n p = 0 → ∃ L, okL n L ∧ b.drop p.toNat = segB n L ∧ nx = n + (L.length : Int) := by
  intro d
  induction d with
  | zero => intro n p h0 hl h1; omega
  | succ d ih =>
    intro n p h0 hl h1 h
    unfold ckS at h
    by_cases hp : p < (b.length : Int)
    · rw [if_pos hp] at h
      by_cases he : (rDec b p).2.2.2.2.2 = 0
      · rw [if_pos he] at h
        by_cases hn : (rDec b p).1 = n
        · rw [if_pos hn] at h
          have hd := rDec_all he
          obtain ⟨k1, k2, k3, _⟩ := rDec_next hb he
          rw [hn] at hd
          generalize (rDec b p).2.1 = kd at *
          generalize (rDec b p).2.2.1 = s at *
          generalize (rDec b p).2.2.2.1 = v at *
          generalize (rDec b p).2.2.2.2.1 = q at *
          obtain ⟨g1, g2, g3, g4, g5⟩ := rDec_ok hb hd
          obtain ⟨L, i1, i2, i3⟩ := ih (n + 1) q (by omega) (by omega) (by omega) h
          refine ⟨(kd, s, v) :: L, ⟨g3, i1⟩, ?_, by simp only [List.length_cons]; omega⟩
          show b.drop p.toNat = rec_ n kd s v ++ segB (n + 1) L
          rw [← i2, ← List.take_append_drop (rec_ n kd s v).length (b.drop p.toNat), g5, List.drop_drop]
          congr 2
          omega
        · rw [if_neg hn] at h; exact absurd h (by decide)
      · rw [if_neg he] at h; exact absurd h he
    · rw [if_neg hp] at h
      by_cases hn : nx = n
      · exact ⟨[], trivial, by rw [List.drop_of_length_le (by omega)]; rfl, by simpa using hn⟩
      · rw [if_neg hn] at h; exact absurd h (by decide)
/-- A valid segment is the bytes of records. -/
theorem sChk_zero {base nx : Int} {b : List UInt8} (hb : Byt b) (h : sChk base nx b = 0) : 0 ≤ base ∧ base ≤ 1099511627776 ∧ b.length ≤ 65536 ∧ ∃ L, okL base L ∧ b = segB base L ∧ nx = base + (L.length : Int) := by
  unfold sChk at h
  by_cases h0 : base < 0
  · rw [if_pos h0] at h; exact absurd h (by decide)
  rw [if_neg h0] at h
  by_cases h1 : base > 1099511627776
  · rw [if_pos h1] at h; exact absurd h (by decide)
  rw [if_neg h1] at h
  by_cases h2 : (b.length : Int) > 65536
  · rw [if_pos h2] at h; exact absurd h (by decide)
  rw [if_neg h2] at h
  obtain ⟨L, a1, a2, a3⟩ := ckS_zero b hb nx _ _ _ (by omega) (by omega) (by omega) h
  exact ⟨by omega, by omega, by omega, L, a1, by simpa using a2, a3⟩
theorem rDec_seg (pre r : List UInt8) {o n : Int} {s v : List UInt8} {L : List RV} (h : okL o ((n, s, v) :: L)) : rDec (pre ++ segB o ((n, s, v) :: L) ++ r) (pre.length : Int) = (o, n, s, v, (pre.length : Int) + ((rec_ o n s v).length : Int), 0) := by
  have := rDec_at pre (segB (o + 1) L ++ r) h.1
  rw [← this]; congr 1; simp [segB]
theorem ckS_of (b : List UInt8) : ∀ (L : List RV) (d : Nat) (n : Int) (pre : List UInt8), okL n L → b = pre ++ segB n L → (b.length : Int) - (pre.length : Int) < d → ckS b (n + (L.length : Int)) d n (pre.length : Int) = 0
  | [], d, n, pre, _, he, hd => by
    cases d with
    | zero => exact rfl
    | succ d =>
      unfold ckS
      rw [if_neg (by rw [he]; simp [segB]), if_pos (by simp)]
  | (kd, s, v) :: L, d, n, pre, hk, he, hd => by
    cases d with
    | zero => exact rfl
    | succ d =>
      have hr := rec_len hk.1
      have hl : b.length = pre.length + ((rec_ n kd s v).length + (segB (n + 1) L).length) := by rw [he]; simp [segB]
      have hdec := rDec_seg pre [] hk
      rw [List.append_nil, ← he] at hdec
      unfold ckS
      rw [hdec]
      dsimp only
      rw [if_pos (by omega), if_pos rfl, if_pos rfl]
      have := ckS_of b L d (n + 1) (pre ++ rec_ n kd s v) hk.2 (by rw [he]; simp [segB]) (by simp only [List.length_append]; omega)
      simp only [List.length_append, Int.natCast_add] at this
      rw [← this]
      simp only [List.length_cons]
      congr 1
      omega
theorem sChk_of {base : Int} {L : List RV} (h0 : 0 ≤ base) (h1 : base ≤ 1099511627776) (hk : okL base L) (hl : (segB base L).length ≤ 65536) : sChk base (base + (L.length : Int)) (segB base L) = 0 := by
  unfold sChk
  rw [if_neg (by omega), if_neg (by omega), if_neg (by omega)]
  exact ckS_of (segB base L) L _ base [] hk rfl (by simp; omega)

def sApp (base nx : Int) (b : List UInt8) (n : Int) (s v : List UInt8) : Int × Int × List UInt8 × Int × Int :=
  if chk nx n s v = 0 then (if (b.length : Int) + ((rec_ nx n s v).length : Int) > 65536 then (0, 0, [], 0, 6) else (base, nx + 1, b ++ rec_ nx n s v, nx, 0)) else (0, 0, [], 0, chk nx n s v)

theorem seg_head {b pre : List UInt8} {o n : Int} {s v : List UInt8} {L : List RV} (hk : okL o ((n, s, v) :: L)) (he : b = pre ++ segB o ((n, s, v) :: L)) :
    (pre.length : Int) < (b.length : Int) ∧ rDec b (pre.length : Int) = (o, n, s, v, ((pre ++ rec_ o n s v).length : Int), 0) ∧ b = (pre ++ rec_ o n s v) ++ segB (o + 1) L := by
  have hr := rec_len hk.1
  have hl : b.length = pre.length + ((rec_ o n s v).length + (segB (o + 1) L).length) := by rw [he]; simp [segB]
  have hdec := rDec_seg pre [] hk
  rw [List.append_nil, ← he] at hdec
  refine ⟨by omega, ?_, by rw [he]; simp [segB]⟩
  rw [hdec]; simp
theorem seg_end {b pre : List UInt8} {o : Int} (he : b = pre ++ segB o []) : ¬ (pre.length : Int) < (b.length : Int) := by rw [he]; simp [segB]

/-! ### the part below an offset -/
def cutAt (L : List RV) (n f : Int) : Nat := min L.length (f - n).toNat
theorem recL_at : ∀ (L : List RV) (o : Int) (i : Nat) (h : i < L.length), (recL o L)[i]'(by rw [recL_len]; exact h) = ((o + i, (L[i]).1, (L[i]).2.1, (L[i]).2.2) : Rec)
  | (n, s, v) :: r, o, 0, _ => by simp [recL]
  | (n, s, v) :: r, o, i + 1, h => by
    have := recL_at r (o + 1) i (by simpa using h)
    simp only [recL, List.getElem_cons_succ]
    rw [this]
    simp only [Prod.mk.injEq, true_and, and_true]
    omega
/-! ### what bytes begin with -/
def rcv (b : List UInt8) : Nat → Int → Int → Int × Int
  | 0, n, p => (n, p)
  | d + 1, n, p => if p < (b.length : Int) then (if (rDec b p).2.2.2.2.2 = 0 then (if (rDec b p).1 = n then (if (rDec b p).2.2.2.2.1 > 65536 then (n, p) else rcv b d (n + 1) (rDec b p).2.2.2.2.1) else (n, p)) else (n, p)) else (n, p)
theorem rcv_in (b : List UInt8) (hb : Byt b) : ∀ (d : Nat) (n p : Int), 0 ≤ p → p ≤ (b.length : Int) → 0 ≤ (rcv b d n p).2 ∧ (rcv b d n p).2 ≤ (b.length : Int) := by
  intro d
  induction d with
  | zero => intro n p h0 h1; exact ⟨h0, h1⟩
  | succ d ih =>
    intro n p h0 h1
    unfold rcv
    split
    · split
      · rename_i he
        obtain ⟨_, g2, g3, _⟩ := rDec_next hb he
        split
        · split
          · exact ⟨h0, h1⟩
          · exact ih _ _ (by omega) g3
        · exact ⟨h0, h1⟩
      · exact ⟨h0, h1⟩
    · exact ⟨h0, h1⟩
theorem rcv_off (b : List UInt8) (hb : Byt b) (d : Nat) {n : Int} (p : Int) (h : n < 0 ∨ n > 1099511627776) : rcv b d n p = (n, p) := by
  cases d with
  | zero => rfl
  | succ d =>
    unfold rcv
    by_cases hp : p < (b.length : Int)
    · rw [if_pos hp]
      by_cases he : (rDec b p).2.2.2.2.2 = 0
      · obtain ⟨_, g2, g3, g4, g5⟩ := rDec_next hb he
        rw [if_pos he, if_neg (by omega)]
      · rw [if_neg he]
    · rw [if_neg hp]
end Go.Proofs.Ytkklehfcadkikaa.EVT
