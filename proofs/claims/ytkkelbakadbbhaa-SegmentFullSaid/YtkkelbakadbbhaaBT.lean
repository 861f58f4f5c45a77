/- What the functions of package segment, and of its reference, compute: valid segments are records one after the other, with consecutive offsets. -/
import Derived.Test.YtkkelbakadbbhaaBR
import Derived.Test.YtkkelbakadbbhaaYref314
import Derived.Test.YtkkelbakadbbhaaYref320
import Derived.Test.YtkkelbakadbbhaaYref322
import Derived.Test.YtkkelbakadbbhaaYref324
import Derived.Test.YtkkelbakadbbhaaYref325
import Derived.Test.YtkkelbakadbbhaaYsegment0
import Derived.Test.YtkkelbakadbbhaaYsegment1
set_option linter.unusedVariables false
set_option linter.unusedSimpArgs false
namespace Go.Proofs.Ytkkelbakadbbhaa.Sp
open Go.RowKit Go.Proofs.YtkkelbakadbbhaaW.PrintWords Go.Proofs.YtkkelbakadbbhaaW.PrintLast Go.Proofs.YtkkelbakadbbhaaW.PrintMore Go.Proofs.Ytkkelbakadbbhaa.J

/-- A record without its offset: kind, key, value. -/
abbrev RV := Int × ByteArray × ByteArray
/-- The bytes of records with the offsets o, o+1, .. -/
def segB : Int → List RV → List Int
  | _, [] => []
  | o, (n, s, v) :: r => rec_ o n s v ++ segB (o + 1) r
def okL : Int → List RV → Prop
  | _, [] => True
  | o, (n, s, v) :: r => chk o n s v = 0 ∧ okL (o + 1) r
def recL : Int → List RV → List S23
  | _, [] => []
  | o, (n, s, v) :: r => (⟨o, n, s, v⟩ : S23) :: recL (o + 1) r
theorem recL_len : ∀ (L : List RV) (o : Int), (recL o L).length = L.length
  | [], _ => rfl
  | (_, _, _) :: r, o => by simp [recL, recL_len r]
theorem segB_len : ∀ (L : List RV) (o : Int), okL o L → 10 * L.length ≤ (segB o L).length
  | [], _, _ => by simp [segB]
  | (n, s, v) :: r, o, h => by
    have h1 := segB_len r (o + 1) h.2
    have h2 := rec_len h.1
    simp only [segB, List.length_append, List.length_cons]
    omega
theorem segB_app : ∀ (L M : List RV) (o : Int), segB o (L ++ M) = segB o L ++ segB (o + L.length) M
  | [], M, o => by simp [segB]
  | (n, s, v) :: r, M, o => by
    simp only [segB, List.cons_append, List.append_assoc, segB_app r M (o + 1), List.length_cons]
    rw [show o + 1 + (r.length : Int) = o + ((r.length + 1 : Nat) : Int) from by omega]
theorem okL_app : ∀ (L M : List RV) (o : Int), okL o (L ++ M) ↔ okL o L ∧ okL (o + L.length) M
  | [], M, o => by simp [okL]
  | (n, s, v) :: r, M, o => by
    simp only [okL, List.cons_append, okL_app r M (o + 1), List.length_cons]
    rw [show o + 1 + (r.length : Int) = o + ((r.length + 1 : Nat) : Int) from by omega, and_assoc]
theorem okL_at : ∀ (L : List RV) (o : Int) (i : Nat) (h : i < L.length), okL o L → chk (o + i) (L[i]).1 (L[i]).2.1 (L[i]).2.2 = 0
  | (n, s, v) :: r, o, 0, _, h => by simpa using h.1
  | (n, s, v) :: r, o, i + 1, h, hk => by
    have := okL_at r (o + 1) i (by simpa using h) hk.2
    rw [show o + ((i + 1 : Nat) : Int) = o + 1 + (i : Int) from by omega]
    simpa using this
theorem segB_byt : ∀ (L : List RV) (o : Int), Byt (segB o L)
  | [], _ => Byt.nil
  | (n, s, v) :: r, o => (rec_byt _ _ _ _).append (segB_byt r _)

/-! ### which segments are valid -/
def ckS (b : List Int) (nx : Int) : Nat → Int → Int → Int
  | 0, _, _ => 0
  | d + 1, n, p => if p < (b.length : Int) then (if (rDec b p).2.2.2.2.2 = 0 then (if (rDec b p).1 = n then ckS b nx d (n + 1) (rDec b p).2.2.2.2.1 else 22) else (rDec b p).2.2.2.2.2) else if nx = n then 0 else 1
theorem rDec_all {b : List Int} {p : Int} (h : (rDec b p).2.2.2.2.2 = 0) : rDec b p = ((rDec b p).1, (rDec b p).2.1, (rDec b p).2.2.1, (rDec b p).2.2.2.1, (rDec b p).2.2.2.2.1, 0) :=
  Prod.ext rfl (Prod.ext rfl (Prod.ext rfl (Prod.ext rfl (Prod.ext rfl h))))
theorem rDec_next {b : List Int} {p : Int} (hb : Byt b) (h : (rDec b p).2.2.2.2.2 = 0) : 0 ≤ p ∧ p + 10 ≤ (rDec b p).2.2.2.2.1 ∧ (rDec b p).2.2.2.2.1 ≤ (b.length : Int) ∧ 0 ≤ (rDec b p).1 ∧ (rDec b p).1 ≤ 1099511627776 := by
  obtain ⟨g1, g2, g3, g4, g5⟩ := rDec_ok hb (rDec_all h)
  have := rec_len g3
  obtain ⟨h0, h1, _⟩ := chk_zero.1 g3
  exact ⟨g1, by omega, g2, h0, h1⟩
theorem segment_Check_l0 (b : List Int) (hb : Byt b) (hlen : b.length ≤ 4611686018427387) (nx base : Int) : ∀ (d : Nat) (n p : Int), 0 ≤ p → p ≤ (b.length : Int) → (b.length : Int) - p < d → 0 ≤ n → n + d ≤ 4611686018427387904 → Ev (fun k => segment_Check.l0 k n p base nx b) (ckS b nx d n p) := by
  intro d
  induction d with
  | zero => intro n p h0 hl h1 _ _; omega
  | succ d ih =>
    intro n p h0 hl h1 h2 h3
    refine Ev.step (fun k => by simp only [segment_Check.l0]; rfl) ?_
    unfold ckS
    by_cases hp : p < (b.length : Int)
    · rw [if_pos hp]
      refine Ev.pos hp (Ev.bind (record_Decode_ev b hb hlen p) ?_)
      by_cases he : (rDec b p).2.2.2.2.2 = 0
      · obtain ⟨_, g2, g3, _⟩ := rDec_next hb he
        rw [if_pos he]
        refine Ev.pos he ?_
        by_cases hn : (rDec b p).1 = n
        · rw [if_pos hn, wrap64_in (by omega) (by omega)]
          exact Ev.pos hn (ih _ _ (by omega) g3 (by omega) (by omega) (by omega))
        · rw [if_neg hn]; exact Ev.neg hn (Ev.now _)
      · rw [if_neg he]; exact Ev.neg he (Ev.now _)
    · rw [if_neg hp]
      refine Ev.neg hp ?_
      by_cases hn : nx = n
      · simp only [if_pos hn]; exact Ev.now _
      · simp only [if_neg hn]; exact Ev.now _
theorem ref32_Check_l0 (b : List Int) (hb : Byt b) (hlen : b.length ≤ 4611686018427387) (nx base : Int) (hbase : 0 ≤ base) (hb2 : base ≤ 1099511627776) : ∀ (d : Nat) (n p : Int), 0 ≤ p → p ≤ (b.length : Int) → (b.length : Int) - p < d → 0 ≤ n → n + d ≤ 2305843009213693952 → Ev (fun k => brokerref32_Check.l0 k p n base nx b) (ckS b nx d (base + n) p) := by
  intro d
  induction d with
  | zero => intro n p h0 hl h1 _ _; omega
  | succ d ih =>
    intro n p h0 hl h1 h2 h3
    refine Ev.step (fun k => by simp only [brokerref32_Check.l0]; rfl) ?_
    unfold ckS
    rw [wrap64_in (n := base + n) (by omega) (by omega)]
    by_cases hp : p < (b.length : Int)
    · rw [if_pos hp]
      refine Ev.pos hp (Ev.bind (ref31_Decode_ev b hb hlen p) ?_)
      by_cases he : (rDec b p).2.2.2.2.2 = 0
      · obtain ⟨_, g2, g3, _⟩ := rDec_next hb he
        rw [if_pos he]
        refine Ev.pos he ?_
        by_cases hn : (rDec b p).1 = base + n
        · rw [if_pos hn, wrap64_in (by omega) (by omega), show base + n + 1 = base + (n + 1) from by omega]
          exact Ev.pos hn (ih _ _ (by omega) g3 (by omega) (by omega) (by omega))
        · rw [if_neg hn]; exact Ev.neg hn (Ev.now _)
      · rw [if_neg he]; exact Ev.neg he (Ev.now _)
    · rw [if_neg hp]
      refine Ev.neg hp ?_
      by_cases hn : nx = base + n
      · simp only [if_pos hn]; exact Ev.now _
      · simp only [if_neg hn]; exact Ev.now _
def sChk (base nx : Int) (b : List Int) : Int := if base < 0 then 1 else if base > 1099511627776 then 1 else if (b.length : Int) > 65536 then 5 else ckS b nx (b.length + 1) base 0
theorem segment_Check_ev (b : List Int) (hb : Byt b) (hlen : b.length ≤ 4611686018427387) (base nx : Int) : Ev (fun k => segment_Check.f k base nx b) (sChk base nx b) := by
  unfold segment_Check.f sChk
  by_cases h0 : base < 0
  · rw [if_pos h0]
    exact Ev.pos h0 (Ev.step (fun k => by simp only [segment_Check.j0, if_true]) (Ev.now _))
  rw [if_neg h0]
  refine Ev.neg h0 (Ev.step (fun k => by simp only [segment_Check.j0]; rfl) ?_)
  by_cases h1 : base > 1099511627776
  · rw [if_pos h1]; exact Ev.pos (decide_eq_true h1) (Ev.now _)
  rw [if_neg h1]
  refine Ev.neg (by simpa using h1) ?_
  by_cases h2 : (b.length : Int) > 65536
  · rw [if_pos h2]; exact Ev.pos h2 (Ev.now _)
  rw [if_neg h2]
  exact Ev.neg h2 (segment_Check_l0 b hb hlen nx base _ _ _ (by omega) (by omega) (by omega) (by omega) (by omega))
theorem ref32_Check_ev (b : List Int) (hb : Byt b) (hlen : b.length ≤ 4611686018427387) (base nx : Int) : Ev (fun k => brokerref32_Check.f k base nx b) (sChk base nx b) := by
  unfold brokerref32_Check.f sChk
  by_cases h0 : base < 0
  · rw [if_pos h0]
    exact Ev.pos h0 (Ev.step (fun k => by simp only [brokerref32_Check.j0, if_true]) (Ev.now _))
  rw [if_neg h0]
  refine Ev.neg h0 (Ev.step (fun k => by simp only [brokerref32_Check.j0]; rfl) ?_)
  by_cases h1 : base > 1099511627776
  · rw [if_pos h1]; exact Ev.pos (decide_eq_true h1) (Ev.now _)
  rw [if_neg h1]
  refine Ev.neg (by simpa using h1) ?_
  by_cases h2 : (b.length : Int) > 65536
  · rw [if_pos h2]; exact Ev.pos h2 (Ev.now _)
  rw [if_neg h2]
  refine Ev.neg h2 ?_
  have := ref32_Check_l0 b hb hlen nx base (by omega) (by omega) (b.length + 1) 0 0 (by omega) (by omega) (by omega) (by omega) (by omega)
  rwa [Int.add_zero] at this
theorem ckS_zero (b : List Int) (hb : Byt b) (nx : Int) : ∀ (d : Nat) (n p : Int), 0 ≤ p → p ≤ (b.length : Int) → (b.length : Int) - p < d → ckS b nx d n p = 0 → ∃ L, okL n L ∧ b.drop p.toNat = segB n L ∧ nx = n + (L.length : Int) := by
  intro d
  induction d with
  | zero => intro n p h0 hl h1; omega
  | succ d ih =>
    intro n p h0 hl h1 h
    unfold ckS at h
    by_cases hp : p < (b.length : Int)
    · rw [if_pos hp] at h
      by_cases he : (rDec b p).2.2.2.2.2 = 0
      · rw [if_pos he] at h
        by_cases hn : (rDec b p).1 = n
        · rw [if_pos hn] at h
          have hd := rDec_all he
          obtain ⟨k1, k2, k3, _⟩ := rDec_next hb he
          rw [hn] at hd
          generalize (rDec b p).2.1 = kd at *
          generalize (rDec b p).2.2.1 = s at *
          generalize (rDec b p).2.2.2.1 = v at *
          generalize (rDec b p).2.2.2.2.1 = q at *
          obtain ⟨g1, g2, g3, g4, g5⟩ := rDec_ok hb hd
          obtain ⟨L, i1, i2, i3⟩ := ih (n + 1) q (by omega) (by omega) (by omega) h
          refine ⟨(kd, s, v) :: L, ⟨g3, i1⟩, ?_, by simp only [List.length_cons]; omega⟩
          show b.drop p.toNat = rec_ n kd s v ++ segB (n + 1) L
          rw [← i2, ← List.take_append_drop (rec_ n kd s v).length (b.drop p.toNat), g5, List.drop_drop]
          congr 2
          omega
        · rw [if_neg hn] at h; exact absurd h (by decide)
      · rw [if_neg he] at h; exact absurd h he
    · rw [if_neg hp] at h
      by_cases hn : nx = n
      · exact ⟨[], trivial, by rw [List.drop_of_length_le (by omega)]; rfl, by simpa using hn⟩
      · rw [if_neg hn] at h; exact absurd h (by decide)
/-- A valid segment is the bytes of records. -/
theorem sChk_zero {base nx : Int} {b : List Int} (hb : Byt b) (h : sChk base nx b = 0) : 0 ≤ base ∧ base ≤ 1099511627776 ∧ b.length ≤ 65536 ∧ ∃ L, okL base L ∧ b = segB base L ∧ nx = base + (L.length : Int) := by
  unfold sChk at h
  by_cases h0 : base < 0
  · rw [if_pos h0] at h; exact absurd h (by decide)
  rw [if_neg h0] at h
  by_cases h1 : base > 1099511627776
  · rw [if_pos h1] at h; exact absurd h (by decide)
  rw [if_neg h1] at h
  by_cases h2 : (b.length : Int) > 65536
  · rw [if_pos h2] at h; exact absurd h (by decide)
  rw [if_neg h2] at h
  obtain ⟨L, a1, a2, a3⟩ := ckS_zero b hb nx _ _ _ (by omega) (by omega) (by omega) h
  exact ⟨by omega, by omega, by omega, L, a1, by simpa using a2, a3⟩
theorem rDec_seg (pre r : List Int) {o n : Int} {s v : ByteArray} {L : List RV} (h : okL o ((n, s, v) :: L)) : rDec (pre ++ segB o ((n, s, v) :: L) ++ r) (pre.length : Int) = (o, n, s, v, (pre.length : Int) + ((rec_ o n s v).length : Int), 0) := by
  have := rDec_at pre (segB (o + 1) L ++ r) h.1
  rw [← this]; congr 1; simp [segB]
theorem ckS_of (b : List Int) : ∀ (L : List RV) (d : Nat) (n : Int) (pre : List Int), okL n L → b = pre ++ segB n L → (b.length : Int) - (pre.length : Int) < d → ckS b (n + (L.length : Int)) d n (pre.length : Int) = 0
  | [], d, n, pre, _, he, hd => by
    cases d with
    | zero => exact rfl
    | succ d =>
      unfold ckS
      rw [if_neg (by rw [he]; simp [segB]), if_pos (by simp)]
  | (kd, s, v) :: L, d, n, pre, hk, he, hd => by
    cases d with
    | zero => exact rfl
    | succ d =>
      have hr := rec_len hk.1
      have hl : b.length = pre.length + ((rec_ n kd s v).length + (segB (n + 1) L).length) := by rw [he]; simp [segB]
      have hdec := rDec_seg pre [] hk
      rw [List.append_nil, ← he] at hdec
      unfold ckS
      rw [hdec]
      dsimp only
      rw [if_pos (by omega), if_pos rfl, if_pos rfl]
      have := ckS_of b L d (n + 1) (pre ++ rec_ n kd s v) hk.2 (by rw [he]; simp [segB]) (by simp only [List.length_append]; omega)
      simp only [List.length_append, Int.natCast_add] at this
      rw [← this]
      simp only [List.length_cons]
      congr 1
      omega
theorem sChk_of {base : Int} {L : List RV} (h0 : 0 ≤ base) (h1 : base ≤ 1099511627776) (hk : okL base L) (hl : (segB base L).length ≤ 65536) : sChk base (base + (L.length : Int)) (segB base L) = 0 := by
  unfold sChk
  rw [if_neg (by omega), if_neg (by omega), if_neg (by omega)]
  exact ckS_of (segB base L) L _ base [] hk rfl (by simp; omega)

/-! ### one record more -/
theorem segment_owned_eq (l0 l1 : List Int) (h : l0.length + l1.length ≤ 140737488355328) : segment_owned.f l0 l1 = some (l0 ++ l1) := by unfold segment_owned.f; rw [if_pos (by omega)]
def sApp (base nx : Int) (b : List Int) (n : Int) (s v : ByteArray) : Int × Int × List Int × Int × Int :=
  if chk nx n s v = 0 then (if (b.length : Int) + ((rec_ nx n s v).length : Int) > 65536 then (0, 0, [], 0, 6) else (base, nx + 1, b ++ rec_ nx n s v, nx, 0)) else (0, 0, [], 0, chk nx n s v)
theorem segment_Append_ev (base nx : Int) (b : List Int) (n : Int) (s v : ByteArray) (hl : b.length ≤ 1099511627776) : Ev (fun k => segment_Append.f k base nx b n s v) (sApp base nx b n s v) := by
  unfold segment_Append.f sApp
  refine Ev.bind (record_Encode_ev nx n s v) ?_
  unfold rEnc
  by_cases h : chk nx n s v = 0
  · have hr := rec_len h
    obtain ⟨h0, h1, _⟩ := chk_zero.1 h
    simp only [if_pos h]
    rw [wrap64_in (n := (b.length : Int) + ((rec_ nx n s v).length : Int)) (by omega) (by omega), wrap64_in (n := nx + 1) (by omega) (by omega)]
    refine Ev.pos trivial ?_
    by_cases h2 : (b.length : Int) + ((rec_ nx n s v).length : Int) > 65536
    · simp only [if_pos h2]; exact Ev.now _
    · simp only [if_neg h2]; exact Ev.get (segment_owned_eq b (rec_ nx n s v) (by omega)) (Ev.now _)
  · simp only [if_neg h]
    exact Ev.now _
theorem ref32_Append_ev (base nx : Int) (b : List Int) (n : Int) (s v : ByteArray) (hl : b.length ≤ 1099511627776) : Ev (fun k => brokerref32_Append.f k base nx b n s v) (sApp base nx b n s v) := by
  unfold brokerref32_Append.f sApp
  refine Ev.bind (ref31_Encode_ev nx n s v) ?_
  unfold rEnc
  by_cases h : chk nx n s v = 0
  · have hr := rec_len h
    obtain ⟨h0, h1, _⟩ := chk_zero.1 h
    simp only [if_pos h]
    rw [wrap64_in (n := (b.length : Int) + ((rec_ nx n s v).length : Int)) (by omega) (by omega), wrap64_in (n := nx + 1) (by omega) (by omega)]
    refine Ev.pos trivial ?_
    by_cases h2 : (b.length : Int) + ((rec_ nx n s v).length : Int) > 65536
    · simp only [if_pos h2]; exact Ev.now _
    · simp only [if_neg h2]
      exact (Ev.get rfl (Ev.pos (by simp; omega) (Ev.get rfl (Ev.pos (by simp; omega) (Ev.now _)))))
  · simp only [if_neg h]
    exact Ev.now _
theorem ref32_Same_self (a b : Int) (l : List Int) : brokerref32_Same.f a b l a b l = some true := by unfold brokerref32_Same.f; rw [if_pos rfl, if_pos rfl, beq_self_eq_true]
end Go.Proofs.Ytkkelbakadbbhaa.Sp
/- Segments: their records, the part below an offset, what is recovered. -/
set_option linter.unusedVariables false
set_option linter.unusedSimpArgs false
namespace Go.Proofs.Ytkkelbakadbbhaa.Sp
open Go.RowKit Go.Proofs.YtkkelbakadbbhaaW.PrintWords Go.Proofs.YtkkelbakadbbhaaW.PrintLast Go.Proofs.YtkkelbakadbbhaaW.PrintMore Go.Proofs.Ytkkelbakadbbhaa.J

theorem seg_head {b pre : List Int} {o n : Int} {s v : ByteArray} {L : List RV} (hk : okL o ((n, s, v) :: L)) (he : b = pre ++ segB o ((n, s, v) :: L)) :
    (pre.length : Int) < (b.length : Int) ∧ rDec b (pre.length : Int) = (o, n, s, v, ((pre ++ rec_ o n s v).length : Int), 0) ∧ b = (pre ++ rec_ o n s v) ++ segB (o + 1) L := by
  have hr := rec_len hk.1
  have hl : b.length = pre.length + ((rec_ o n s v).length + (segB (o + 1) L).length) := by rw [he]; simp [segB]
  have hdec := rDec_seg pre [] hk
  rw [List.append_nil, ← he] at hdec
  refine ⟨by omega, ?_, by rw [he]; simp [segB]⟩
  rw [hdec]; simp
theorem seg_end {b pre : List Int} {o : Int} (he : b = pre ++ segB o []) : ¬ (pre.length : Int) < (b.length : Int) := by rw [he]; simp [segB]

/-! ### the records -/
theorem segment_Records_l0 (b : List Int) (hb : Byt b) (hlen : b.length ≤ 4611686018427387) (base nx : Int) : ∀ (L : List RV) (n : Int) (pre : List Int) (acc : List S23), okL n L → b = pre ++ segB n L → acc.length + L.length < 2932031007402 → Ev (fun k => segment_Records.l0 k acc (pre.length : Int) base nx b) (acc ++ recL n L)
  | [], n, pre, acc, hk, he, ha => by
    refine Ev.step (fun k => by simp only [segment_Records.l0]; rfl) ?_
    refine Ev.neg (seg_end he) ?_
    simp only [recL, List.append_nil]
    exact Ev.now _
  | (kd, s, v) :: L, n, pre, acc, hk, he, ha => by
    obtain ⟨h1, h2, h3⟩ := seg_head hk he
    simp only [List.length_cons] at ha
    refine Ev.step (fun k => by simp only [segment_Records.l0]; rfl) ?_
    refine Ev.pos h1 (Ev.bind (record_Decode_ev b hb hlen _) ?_)
    rw [h2]
    refine Ev.pos rfl (Ev.pos (by omega) ?_)
    have := segment_Records_l0 b hb hlen base nx L (n + 1) (pre ++ rec_ n kd s v) (acc ++ [⟨n, kd, s, v⟩]) hk.2 h3 (by simp; omega)
    simpa [recL] using this
theorem segment_Records_ev {b : List Int} (hb : Byt b) (hlen : b.length ≤ 4611686018427387) {base : Int} (nx : Int) {L : List RV} (hk : okL base L) (he : b = segB base L) (ha : L.length < 2932031007402) : Ev (fun k => segment_Records.f k base nx b) (recL base L) :=
  segment_Records_l0 b hb hlen base nx L base [] [] hk he (by simpa using ha)
theorem ref32_Records_l0 (b : List Int) (hb : Byt b) (hlen : b.length ≤ 4611686018427387) (base nx : Int) : ∀ (L : List RV) (n : Int) (pre : List Int) (acc : List S23), okL n L → b = pre ++ segB n L → acc.length + L.length < 2932031007402 → Ev (fun k => brokerref32_Records.l0 k acc (pre.length : Int) base nx b) (acc ++ recL n L)
  | [], n, pre, acc, hk, he, ha => by
    refine Ev.step (fun k => by simp only [brokerref32_Records.l0]; rfl) ?_
    refine Ev.neg (seg_end he) ?_
    simp only [recL, List.append_nil]
    exact Ev.now _
  | (kd, s, v) :: L, n, pre, acc, hk, he, ha => by
    obtain ⟨h1, h2, h3⟩ := seg_head hk he
    simp only [List.length_cons] at ha
    refine Ev.step (fun k => by simp only [brokerref32_Records.l0]; rfl) ?_
    refine Ev.pos h1 (Ev.bind (ref31_Decode_ev b hb hlen _) ?_)
    rw [h2]
    refine Ev.pos rfl (Ev.pos (by omega) ?_)
    have := ref32_Records_l0 b hb hlen base nx L (n + 1) (pre ++ rec_ n kd s v) (acc ++ [⟨n, kd, s, v⟩]) hk.2 h3 (by simp; omega)
    simpa [recL] using this
theorem ref32_Records_ev {b : List Int} (hb : Byt b) (hlen : b.length ≤ 4611686018427387) {base : Int} (nx : Int) {L : List RV} (hk : okL base L) (he : b = segB base L) (ha : L.length < 2932031007402) : Ev (fun k => brokerref32_Records.f k base nx b) (recL base L) :=
  ref32_Records_l0 b hb hlen base nx L base [] [] hk he (by simpa using ha)
theorem ref31_Same_l0 (l : List S23) (hl : l.length ≤ 4611686018427387904) : ∀ (d i : Nat), i + d = l.length → Ev (fun k => brokerref31_Same.l0 k l l (i : Int)) true := by
  intro d
  induction d with
  | zero =>
    intro i hi
    refine Ev.step (fun k => by simp only [brokerref31_Same.l0]; rfl) ?_
    exact Ev.neg (by omega) (Ev.now _)
  | succ d ih =>
    intro i hi
    refine Ev.step (fun k => by simp only [brokerref31_Same.l0]; rfl) ?_
    refine Ev.pos (by omega) (Ev.pos (by omega) (Ev.pos (by omega) (Ev.neg (by simp) ?_)))
    rw [wrap64_in (by omega) (by omega)]
    exact ih (i + 1) (by omega)
theorem ref31_Same_self (l : List S23) (hl : l.length ≤ 4611686018427387904) : Ev (fun k => brokerref31_Same.f k l l) true := by
  unfold brokerref31_Same.f
  exact Ev.pos rfl (ref31_Same_l0 l hl l.length 0 (by omega))

/-! ### the part below an offset -/
def cutAt (L : List RV) (n f : Int) : Nat := min L.length (f - n).toNat
theorem segment_Truncate_l0 (b : List Int) (hb : Byt b) (hlen : b.length ≤ 70368744177664) (base nx f : Int) : ∀ (L : List RV) (n : Int) (pre : List Int), okL n L → b = pre ++ segB n L → 0 ≤ n → n + L.length ≤ 4611686018427387904 → Ev (fun k => segment_Truncate.l0 k f n (pre.length : Int) base nx b) (base, n + (cutAt L n f : Nat), pre ++ segB n (L.take (cutAt L n f)))
  | [], n, pre, hk, he, h0, h1 => by
    refine Ev.step (fun k => by simp only [segment_Truncate.l0]; rfl) ?_
    refine Ev.neg (seg_end he) (Ev.step (fun k => by simp only [segment_Truncate.j1]; rfl) ?_)
    have hl : pre = b := by rw [he]; simp [segB]
    have e : b.take ((pre.length : Int)).toNat = pre := by rw [Int.toNat_natCast, ← hl, List.take_length]
    refine Ev.neg (by simp) (Ev.pos (by omega) (Ev.pos (by rw [hl]; omega) ?_))
    rw [e]
    refine Ev.get (segment_owned_eq _ _ (by rw [hl]; simp; omega)) ?_
    simpa [cutAt, segB] using Ev.now (base, n, pre)
  | (kd, s, v) :: L, n, pre, hk, he, h0, h1 => by
    obtain ⟨g1, g2, g3⟩ := seg_head hk he
    simp only [List.length_cons] at h1
    refine Ev.step (fun k => by simp only [segment_Truncate.l0]; rfl) ?_
    refine Ev.pos g1 (Ev.step (fun k => by simp only [segment_Truncate.j1]; rfl) ?_)
    by_cases hf : n < f
    · refine Ev.pos (decide_eq_true hf) (Ev.bind (record_Decode_ev b hb (by omega) _) ?_)
      rw [g2]
      refine Ev.pos rfl ?_
      rw [wrap64_in (by omega) (by omega)]
      have := segment_Truncate_l0 b hb hlen base nx f L (n + 1) (pre ++ rec_ n kd s v) hk.2 g3 (by omega) (by omega)
      have hc : cutAt ((kd, s, v) :: L) n f = cutAt L (n + 1) f + 1 := by unfold cutAt; simp only [List.length_cons]; omega
      rw [hc, List.take_succ_cons]
      simp only [segB]
      rw [show n + ((cutAt L (n + 1) f + 1 : Nat) : Int) = n + 1 + (cutAt L (n + 1) f : Nat) from by omega, ← List.append_assoc]
      exact this
    · have hle : pre.length ≤ b.length := by rw [he]; simp
      have e : b.take ((pre.length : Int)).toNat = pre := by rw [Int.toNat_natCast, he, List.take_left]
      have hc : cutAt ((kd, s, v) :: L) n f = 0 := by unfold cutAt; omega
      refine Ev.neg (by simpa using hf) (Ev.pos (by omega) (Ev.pos (by omega) ?_))
      rw [e, hc]
      refine Ev.get (segment_owned_eq _ _ (by simp; omega)) ?_
      simpa [segB] using Ev.now (base, n, pre)
theorem segment_Truncate_ev {b : List Int} (hb : Byt b) (hlen : b.length ≤ 70368744177664) {base : Int} (nx f : Int) {L : List RV} (hk : okL base L) (he : b = segB base L) (h0 : 0 ≤ base) (h1 : base + L.length ≤ 4611686018427387904) : Ev (fun k => segment_Truncate.f k base nx b f) (base, base + (cutAt L base f : Nat), segB base (L.take (cutAt L base f))) :=
  segment_Truncate_l0 b hb hlen base nx f L base [] hk he h0 h1
theorem rdR_at (l : List S23) (i : Nat) (h : i < l.length) : rd_T23 l (i : Int) = l[i] := by simp [rd_T23, List.getD_eq_getElem?_getD, List.getElem?_eq_getElem h]
theorem recL_at : ∀ (L : List RV) (o : Int) (i : Nat) (h : i < L.length), (recL o L)[i]'(by rw [recL_len]; exact h) = (⟨o + i, (L[i]).1, (L[i]).2.1, (L[i]).2.2⟩ : S23)
  | (n, s, v) :: r, o, 0, _ => by simp [recL]
  | (n, s, v) :: r, o, i + 1, h => by
    have := recL_at r (o + 1) i (by simpa using h)
    simp only [recL, List.getElem_cons_succ]
    rw [this]
    simp only [S23.mk.injEq, true_and, and_true]
    omega
/-- A record that does not come is passed over; one that does is appended. -/
theorem ref32_Truncate_l0 (base f : Int) (L : List RV) (hk : okL base L) (h0 : 0 ≤ base) (h1 : base + L.length ≤ 4611686018427387904) (hl : (segB base L).length ≤ 65536) : ∀ (d i : Nat), i + d = L.length → Ev (fun k => brokerref32_Truncate.l0 k f (recL base L) (i : Int) base (base + (min i (cutAt L base f) : Nat)) (segB base (L.take (min i (cutAt L base f))))) (base, base + (cutAt L base f : Nat), segB base (L.take (cutAt L base f))) := by
  intro d
  induction d with
  | zero =>
    intro i hi
    refine Ev.step (fun k => by simp only [brokerref32_Truncate.l0]; rfl) ?_
    refine Ev.neg (by rw [recL_len]; omega) ?_
    have : min i (cutAt L base f) = cutAt L base f := by unfold cutAt; omega
    rw [this]; exact Ev.now _
  | succ d ih =>
    intro i hi
    have hil : i < L.length := by omega
    refine Ev.step (fun k => by simp only [brokerref32_Truncate.l0]; rfl) ?_
    refine Ev.pos (by rw [recL_len]; omega) (Ev.pos (by omega) ?_)
    rw [rdR_at _ i (by rw [recL_len]; exact hil), recL_at L base i hil, wrap64_in (n := (i : Int) + 1) (by omega) (by omega)]
    have hih := ih (i + 1) (by omega)
    by_cases hf : base + (i : Int) < f
    · refine Ev.pos hf ?_
      have hm : min i (cutAt L base f) = i := by unfold cutAt; omega
      have hm2 : min (i + 1) (cutAt L base f) = i + 1 := by unfold cutAt; omega
      rw [hm2] at hih
      rw [hm]
      have hck := okL_at L base i hil hk
      have hsp : L.take (i + 1) = L.take i ++ [L[i]] := by rw [List.take_succ_eq_append_getElem hil]
      have hb1 : segB base (L.take (i + 1)) = segB base (L.take i) ++ rec_ (base + i) (L[i]).1 (L[i]).2.1 (L[i]).2.2 := by
        rw [hsp, segB_app]; simp [segB, Nat.min_eq_left (Nat.le_of_lt hil)]
      have hb2 : (segB base L).length = (segB base (L.take (i + 1))).length + (segB (base + ((L.take (i + 1)).length : Nat)) (L.drop (i + 1))).length := by
        rw [← List.length_append, ← segB_app, List.take_append_drop]
      have hb3 := congrArg List.length hb1
      rw [List.length_append] at hb3
      refine Ev.bind (ref32_Append_ev base (base + i) (segB base (L.take i)) _ _ _ (by omega)) ?_
      dsimp only
      unfold sApp
      rw [if_pos hck, if_neg (by omega)]
      dsimp only
      rw [← hb1, show base + (i : Int) + 1 = base + ((i + 1 : Nat) : Int) from by omega]
      exact hih
    · refine Ev.neg hf ?_
      have hm : min (i + 1) (cutAt L base f) = min i (cutAt L base f) := by unfold cutAt; omega
      rw [hm] at hih
      exact hih
theorem ref32_Truncate_ev {b : List Int} (hb : Byt b) {base : Int} (nx f : Int) {L : List RV} (hk : okL base L) (he : b = segB base L) (h0 : 0 ≤ base) (h1 : base + L.length ≤ 4611686018427387904) (hl : b.length ≤ 65536) (ha : L.length < 2932031007402) : Ev (fun k => brokerref32_Truncate.f k base nx b f) (base, base + (cutAt L base f : Nat), segB base (L.take (cutAt L base f))) := by
  unfold brokerref32_Truncate.f
  refine Ev.get (x := (base, base, [])) rfl (Ev.bind (ref32_Records_ev hb (by omega) nx hk he ha) ?_)
  have := ref32_Truncate_l0 base f L hk h0 h1 (by rw [← he]; exact hl) L.length 0 (by omega)
  simpa [segB] using this

/-! ### what bytes begin with -/
def rcv (b : List Int) : Nat → Int → Int → Int × Int
  | 0, n, p => (n, p)
  | d + 1, n, p => if p < (b.length : Int) then (if (rDec b p).2.2.2.2.2 = 0 then (if (rDec b p).1 = n then (if (rDec b p).2.2.2.2.1 > 65536 then (n, p) else rcv b d (n + 1) (rDec b p).2.2.2.2.1) else (n, p)) else (n, p)) else (n, p)
theorem rcv_in (b : List Int) (hb : Byt b) : ∀ (d : Nat) (n p : Int), 0 ≤ p → p ≤ (b.length : Int) → 0 ≤ (rcv b d n p).2 ∧ (rcv b d n p).2 ≤ (b.length : Int) := by
  intro d
  induction d with
  | zero => intro n p h0 h1; exact ⟨h0, h1⟩
  | succ d ih =>
    intro n p h0 h1
    unfold rcv
    split
    · split
      · rename_i he
        obtain ⟨_, g2, g3, _⟩ := rDec_next hb he
        split
        · split
          · exact ⟨h0, h1⟩
          · exact ih _ _ (by omega) g3
        · exact ⟨h0, h1⟩
      · exact ⟨h0, h1⟩
    · exact ⟨h0, h1⟩
theorem segment_Recover_l0 (b : List Int) (hb : Byt b) (hlen : b.length ≤ 70368744177664) (base : Int) : ∀ (d : Nat) (n p : Int), 0 ≤ p → p ≤ (b.length : Int) → (b.length : Int) - p < d → -9223372036854775808 ≤ n → n + d ≤ 9223372036854775807 ∨ n > 1099511627776 → Ev (fun k => segment_Recover.l0 k b base n p) (base, (rcv b d n p).1, b.take (rcv b d n p).2.toNat, (rcv b d n p).2) := by
  intro d
  have stop : ∀ (n p : Int), 0 ≤ p → p ≤ (b.length : Int) → Ev (fun k => (if 0 ≤ p then (if p ≤ (b.length : Int) then ((segment_owned.f (b.take (p : Int).toNat) ([] : List Int)).bind fun t => (some (base, n, t, p))) else (none)) else (none))) (base, n, b.take p.toNat, p) := by
    intro n p h0 h1
    refine Ev.pos h0 (Ev.pos h1 (Ev.get (segment_owned_eq _ _ (by simp; omega)) ?_))
    rw [List.append_nil]; exact Ev.now _
  induction d with
  | zero => intro n p h0 hl h1; omega
  | succ d ih =>
    intro n p h0 hl h1 h2 h3
    refine Ev.step (fun k => by simp only [segment_Recover.l0]; rfl) ?_
    unfold rcv
    by_cases hp : p < (b.length : Int)
    · rw [if_pos hp]
      refine Ev.pos hp (Ev.bind (record_Decode_ev b hb (by omega) p) ?_)
      by_cases he : (rDec b p).2.2.2.2.2 = 0
      · obtain ⟨_, g2, g3, g4, g5⟩ := rDec_next hb he
        rw [if_pos he]
        refine Ev.pos he ?_
        by_cases hn : (rDec b p).1 = n
        · rw [if_pos hn]
          refine Ev.pos hn ?_
          by_cases hm : (rDec b p).2.2.2.2.1 > 65536
          · rw [if_pos hm]; exact Ev.pos hm (stop _ _ h0 hl)
          · rw [if_neg hm, wrap64_in (by omega) (by omega)]
            exact Ev.neg hm (ih _ _ (by omega) g3 (by omega) (by omega) (by omega))
        · rw [if_neg hn]; exact Ev.neg hn (stop _ _ h0 hl)
      · rw [if_neg he]; exact Ev.neg he (stop _ _ h0 hl)
    · rw [if_neg hp]; exact Ev.neg hp (stop _ _ h0 hl)
theorem rcv_off (b : List Int) (hb : Byt b) (d : Nat) {n : Int} (p : Int) (h : n < 0 ∨ n > 1099511627776) : rcv b d n p = (n, p) := by
  cases d with
  | zero => rfl
  | succ d =>
    unfold rcv
    by_cases hp : p < (b.length : Int)
    · rw [if_pos hp]
      by_cases he : (rDec b p).2.2.2.2.2 = 0
      · obtain ⟨_, g2, g3, g4, g5⟩ := rDec_next hb he
        rw [if_pos he, if_neg (by omega)]
      · rw [if_neg he]
    · rw [if_neg hp]
theorem segment_Recover_ev (b : List Int) (hb : Byt b) (hlen : b.length ≤ 70368744177664) (base : Int) (h0 : -9223372036854775808 ≤ base) : Ev (fun k => segment_Recover.f k b base) (base, (rcv b (b.length + 1) base 0).1, b.take (rcv b (b.length + 1) base 0).2.toNat, (rcv b (b.length + 1) base 0).2) :=
  segment_Recover_l0 b hb hlen base (b.length + 1) base 0 (by omega) (by omega) (by omega) h0 (by omega)
end Go.Proofs.Ytkkelbakadbbhaa.Sp
