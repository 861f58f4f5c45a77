/- What the functions of package record, and of its reference, compute: which records are valid, their framed form, reading one. -/
import Derived.Test.YtkkelbakadbbhaaBS
import Derived.Test.YtkkelbakadbbhaaYpack0
import Derived.Test.YtkkelbakadbbhaaYrecord0
import Derived.Test.YtkkelbakadbbhaaYrecord1
import Derived.Test.YtkkelbakadbbhaaYrecord2
import Derived.Test.YtkkelbakadbbhaaYref041
import Derived.Test.YtkkelbakadbbhaaYref310
import Derived.Test.YtkkelbakadbbhaaYref311
import Derived.Test.YtkkelbakadbbhaaYref312
set_option linter.unusedVariables false
set_option linter.unusedSimpArgs false
namespace Go.Proofs.Ytkkelbakadbbhaa.Sp
open Go.RowKit Go.Proofs.YtkkelbakadbbhaaW.PrintWords Go.Proofs.YtkkelbakadbbhaaW.PrintLast Go.Proofs.YtkkelbakadbbhaaW.PrintMore Go.Proofs.Ytkkelbakadbbhaa.J

def ck2 (b : Bool) (n : Int) (v : ByteArray) : Int := if b = true then 5 else if n = 1 then 0 else if v.toList = ([] : List UInt8) then 0 else 28
def ck1 (b : Bool) (n : Int) (s v : ByteArray) : Int := if b = true then 10 else if s.toList = ([] : List UInt8) then 1 else ck2 (decide ((s.size : Int) > 64 ∨ (v.size : Int) > 4096)) n v
def ck0 (b : Bool) (n : Int) (s v : ByteArray) : Int := if b = true then 1 else ck1 (decide (¬ (n = 1 ∨ n = 2 ∨ n = 3))) n s v
def chk (o n : Int) (s v : ByteArray) : Int := ck0 (decide (o < 0 ∨ o > 1099511627776)) n s v
theorem chk_zero {o n : Int} {s v : ByteArray} : chk o n s v = 0 ↔ 0 ≤ o ∧ o ≤ 1099511627776 ∧ (n = 1 ∨ n = 2 ∨ n = 3) ∧ s.toList ≠ [] ∧ s.size ≤ 64 ∧ v.size ≤ 4096 ∧ (n = 1 ∨ v.toList = []) := by
  unfold chk ck0
  by_cases h0 : o < 0 ∨ o > 1099511627776
  · rw [if_pos (by simpa using h0)]; exact ⟨fun h => absurd h (by decide), fun h => by omega⟩
  rw [if_neg (by simpa using h0)]
  unfold ck1
  by_cases h1 : n = 1 ∨ n = 2 ∨ n = 3
  · rw [if_neg (fun hh => (of_decide_eq_true hh) h1)]
    by_cases h2 : s.toList = []
    · rw [if_pos h2]; exact ⟨fun h => absurd h (by decide), fun h => absurd h2 h.2.2.2.1⟩
    rw [if_neg h2]
    unfold ck2
    by_cases h3 : (s.size : Int) > 64 ∨ (v.size : Int) > 4096
    · rw [if_pos (by simpa using h3)]; exact ⟨fun h => absurd h (by decide), fun h => by omega⟩
    rw [if_neg (by simpa using h3)]
    by_cases h4 : n = 1
    · rw [if_pos h4]; exact ⟨fun _ => ⟨by omega, by omega, h1, h2, by omega, by omega, .inl h4⟩, fun _ => rfl⟩
    rw [if_neg h4]
    by_cases h5 : v.toList = []
    · rw [if_pos h5]; exact ⟨fun _ => ⟨by omega, by omega, h1, h2, by omega, by omega, .inr h5⟩, fun _ => rfl⟩
    rw [if_neg h5]; exact ⟨fun h => absurd h (by decide), fun h => by exact absurd h.2.2.2.2.2.2 (fun hh => hh.elim h4 h5)⟩
  · rw [if_pos (decide_eq_true h1)]; exact ⟨fun h => absurd h (by decide), fun h => absurd h.2.2.1 h1⟩
theorem chk_3 {o n : Int} {s v : ByteArray} : chk o n s v ≠ 3 ∧ chk o n s v ≠ 4 := by
  unfold chk ck0 ck1 ck2
  repeat' split
  all_goals decide

theorem rec_j2 (b : Bool) (o n : Int) (s v : ByteArray) : Ev (fun k => record_Check.j2 k b o n s v) (ck2 b n v) :=
  Ev.step (f := fun _ => some (ck2 b n v)) (fun k => by simp only [record_Check.j2, ck2]; (repeat' split) <;> rfl) (Ev.now _)
theorem rec_j1 (b : Bool) (o n : Int) (s v : ByteArray) : Ev (fun k => record_Check.j1 k b o n s v) (ck1 b n s v) := by
  refine Ev.step (fun k => by simp only [record_Check.j1]; rfl) ?_
  unfold ck1
  by_cases h : b = true
  · rw [if_pos h]; exact Ev.pos h (Ev.now _)
  · rw [if_neg h]
    refine Ev.neg h ?_
    by_cases h2 : s.toList = []
    · rw [if_pos h2]; exact Ev.pos h2 (Ev.now _)
    · rw [if_neg h2]
      refine Ev.neg h2 ?_
      by_cases h3 : (s.size : Int) > 64
      · rw [decide_eq_true (Or.inl h3)]; exact Ev.pos h3 (rec_j2 _ _ _ _ _)
      · refine Ev.neg h3 ?_
        rw [show decide ((s.size : Int) > 64 ∨ (v.size : Int) > 4096) = decide ((v.size : Int) > 4096) from by simp [h3]]
        exact rec_j2 _ _ _ _ _
theorem rec_j0 (b : Bool) (o n : Int) (s v : ByteArray) : Ev (fun k => record_Check.j0 k b o n s v) (ck0 b n s v) := by
  refine Ev.step (fun k => by simp only [record_Check.j0]; rfl) ?_
  unfold ck0
  by_cases h : b = true
  · rw [if_pos h]; exact Ev.pos h (Ev.now _)
  · rw [if_neg h]
    refine Ev.neg h ?_
    by_cases h1 : n = 1
    · rw [decide_eq_false (by simp [h1])]; exact Ev.pos h1 (rec_j1 _ _ _ _ _)
    refine Ev.neg h1 ?_
    by_cases h2 : n = 2
    · rw [decide_eq_false (by simp [h2])]; exact Ev.pos h2 (rec_j1 _ _ _ _ _)
    refine Ev.neg h2 ?_
    rw [show decide (¬ (n = 1 ∨ n = 2 ∨ n = 3)) = (n != 3) from by by_cases h3 : n = 3 <;> simp [h1, h2, h3]]
    exact rec_j1 _ _ _ _ _
theorem record_Check_ev (o n : Int) (s v : ByteArray) : Ev (fun k => record_Check.f k o n s v) (chk o n s v) := by
  unfold record_Check.f chk
  by_cases h : o < 0
  · rw [decide_eq_true (Or.inl h)]; exact Ev.pos h (rec_j0 _ _ _ _ _)
  · refine Ev.neg h ?_
    rw [show decide (o < 0 ∨ o > 1099511627776) = decide (o > 1099511627776) from by simp [h]]
    exact rec_j0 _ _ _ _ _
theorem ref31_j2 (b : Bool) (o n : Int) (s v : ByteArray) : Ev (fun k => brokerref31_Check.j2 k b o n s v) (ck2 b n v) :=
  Ev.step (f := fun _ => some (ck2 b n v)) (fun k => by simp only [brokerref31_Check.j2, ck2]; (repeat' split) <;> rfl) (Ev.now _)
theorem ref31_j1 (b : Bool) (o n : Int) (s v : ByteArray) : Ev (fun k => brokerref31_Check.j1 k b o n s v) (ck1 b n s v) := by
  refine Ev.step (fun k => by simp only [brokerref31_Check.j1]; rfl) ?_
  unfold ck1
  by_cases h : b = true
  · rw [if_pos h]; exact Ev.pos h (Ev.now _)
  · rw [if_neg h]
    refine Ev.neg h ?_
    by_cases h2 : s.toList = []
    · rw [if_pos h2]; exact Ev.pos h2 (Ev.now _)
    · rw [if_neg h2]
      refine Ev.neg h2 ?_
      by_cases h3 : (s.size : Int) > 64
      · rw [decide_eq_true (Or.inl h3)]; exact Ev.pos h3 (ref31_j2 _ _ _ _ _)
      · refine Ev.neg h3 ?_
        rw [show decide ((s.size : Int) > 64 ∨ (v.size : Int) > 4096) = decide ((v.size : Int) > 4096) from by simp [h3]]
        exact ref31_j2 _ _ _ _ _
theorem ref31_j0 (b : Bool) (o n : Int) (s v : ByteArray) : Ev (fun k => brokerref31_Check.j0 k b o n s v) (ck0 b n s v) := by
  refine Ev.step (fun k => by simp only [brokerref31_Check.j0]; rfl) ?_
  unfold ck0
  by_cases h : b = true
  · rw [if_pos h]; exact Ev.pos h (Ev.now _)
  · rw [if_neg h]
    refine Ev.neg h ?_
    by_cases h1 : n < 1
    · rw [show decide (¬ (n = 1 ∨ n = 2 ∨ n = 3)) = true from decide_eq_true (by omega)]; exact Ev.pos h1 (ref31_j1 _ _ _ _ _)
    refine Ev.neg h1 ?_
    rw [show decide (¬ (n = 1 ∨ n = 2 ∨ n = 3)) = decide (n > 3) from by
      by_cases h3 : n > 3
      · rw [decide_eq_true h3, show decide (¬ (n = 1 ∨ n = 2 ∨ n = 3)) = true from decide_eq_true (by omega)]
      · rw [decide_eq_false h3, show decide (¬ (n = 1 ∨ n = 2 ∨ n = 3)) = false from decide_eq_false (by omega)]]
    exact ref31_j1 _ _ _ _ _
theorem ref31_Check_ev (o n : Int) (s v : ByteArray) : Ev (fun k => brokerref31_Check.f k o n s v) (chk o n s v) := by
  unfold brokerref31_Check.f chk
  by_cases h : o < 0
  · rw [decide_eq_true (Or.inl h)]; exact Ev.pos h (ref31_j0 _ _ _ _ _)
  · refine Ev.neg h ?_
    rw [show decide (o < 0 ∨ o > 1099511627776) = decide (o > 1099511627776) from by simp [h]]
    exact ref31_j0 _ _ _ _ _

/-! ### the framed form -/
def pld (o n : Int) (s v : ByteArray) : List Int := enc (code o) ++ (enc (code n) ++ (cat s ++ cat v))
theorem pld_byt (o n : Int) (s v : ByteArray) : Byt (pld o n s v) := (enc_byt _).append ((enc_byt _).append ((cat_byt _).append (cat_byt _)))
theorem pld_len {o n : Int} {s v : ByteArray} (h : chk o n s v = 0) : 5 ≤ (pld o n s v).length ∧ (pld o n s v).length ≤ 4200 := by
  obtain ⟨h0, h1, h2, h3, h4, h5, h6⟩ := chk_zero.1 h
  have hs : 1 ≤ s.size := by
    rcases Nat.eq_zero_or_pos s.size with hz | hz
    · exact absurd (by rw [Go.Lib.toList_data]; exact List.eq_nil_of_length_eq_zero (by simpa using hz)) h3
    · exact hz
  have a1 := enc_pos (code o); have a2 := enc_pos (code n); have a3 := enc_pos (code (s.size : Int)); have a4 := enc_pos (code (v.size : Int))
  have b1 := enc_len10 (code_lt (n := o) (by omega) (by omega)); have b2 := enc_len10 (code_lt (n := n) (by omega) (by omega)); have b3 := cat_le s (by omega); have b4 := cat_le v (by omega)
  have c3 := cat_len s; have c4 := cat_len v
  unfold pld
  simp only [List.length_append]
  omega
/-- The framed form of a valid record. -/
def rec_ (o n : Int) (s v : ByteArray) : List Int := wrapF (pld o n s v)
theorem rec_byt (o n : Int) (s v : ByteArray) : Byt (rec_ o n s v) := wrapF_byt (pld_byt _ _ _ _)
theorem rec_len {o n : Int} {s v : ByteArray} (h : chk o n s v = 0) : 10 ≤ (rec_ o n s v).length ∧ (rec_ o n s v).length ≤ 4214 := by
  have h1 := pld_len h
  have h2 := wrapF_len (pld o n s v)
  have h3 := enc_pos (code ((pld o n s v).length : Int)); have h4 := enc_len10 (code_lt (n := ((pld o n s v).length : Int)) (by omega) (by omega))
  unfold rec_
  omega
def rEnc (o n : Int) (s v : ByteArray) : List Int × Int := if chk o n s v = 0 then (rec_ o n s v, 0) else ([], chk o n s v)
theorem record_Encode_ev (o n : Int) (s v : ByteArray) : Ev (fun k => record_Encode.f k o n s v) (rEnc o n s v) := by
  unfold record_Encode.f rEnc
  refine Ev.bind (record_Check_ev o n s v) ?_
  by_cases h : chk o n s v = 0
  · rw [if_pos h]
    have hp := pld_len h
    have hr := rec_len h
    obtain ⟨h0, h1, h2, h3, h4, h5, h6⟩ := chk_zero.1 h
    have b1 := enc_len10 (code_lt (n := o) (by omega) (by omega)); have b2 := enc_len10 (code_lt (n := n) (by omega) (by omega)); have b3 := cat_le s (by omega)
    refine Ev.pos h (Ev.bind (pack_PutNum_ev [] o (by omega) (by omega) (by simp)) (Ev.bind (pack_PutNum_ev _ n (by omega) (by omega) (by simp; omega)) (Ev.bind (pack_PutText_ev _ s (by simp; omega) (by omega)) (Ev.bind (pack_PutText_ev _ v (by simp; omega) (by omega)) ?_))))
    rw [show [] ++ enc (code o) ++ enc (code n) ++ cat s ++ cat v = pld o n s v from by simp [pld]]
    refine Ev.bind (frame_Wrap_ev _ (pld_byt _ _ _ _) (by omega)) (Ev.get rfl (Ev.pos ?_ (Ev.now _)))
    show ([] : List Int).length + (rec_ o n s v).length < _
    simp; omega
  · rw [if_neg h]
    exact Ev.neg h (Ev.now _)
theorem ref31_Encode_ev (o n : Int) (s v : ByteArray) : Ev (fun k => brokerref31_Encode.f k o n s v) (rEnc o n s v) := by
  unfold brokerref31_Encode.f rEnc
  refine Ev.bind (ref31_Check_ev o n s v) ?_
  by_cases h : chk o n s v = 0
  · rw [if_pos h]
    have hp := pld_len h
    obtain ⟨h0, h1, h2, h3, h4, h5, h6⟩ := chk_zero.1 h
    have b1 := enc_len10 (code_lt (n := o) (by omega) (by omega)); have b2 := enc_len10 (code_lt (n := n) (by omega) (by omega)); have b3 := cat_le s (by omega)
    refine Ev.pos h (Ev.bind (ref_PutNum_ev [] o (by omega) (by omega) (by simp)) (Ev.bind (ref_PutNum_ev _ n (by omega) (by omega) (by simp; omega)) (Ev.bind (ref_PutText_ev _ s (by simp; omega) (by omega)) (Ev.bind (ref_PutText_ev _ v (by simp; omega) (by omega)) ?_))))
    rw [show [] ++ enc (code o) ++ enc (code n) ++ cat s ++ cat v = pld o n s v from by simp [pld]]
    exact Ev.bind (ref4_Wrap_ev _ (pld_byt _ _ _ _) (by omega)) (Ev.now _)
  · rw [if_neg h]
    exact Ev.neg h (Ev.now _)
theorem record_Size_ev (o n : Int) (s v : ByteArray) : Ev (fun k => record_Size.f k o n s v) ((rEnc o n s v).1.length : Int) := by
  unfold record_Size.f
  exact Ev.bind (record_Encode_ev o n s v) (Ev.now _)

/-! ### reading a record -/
def rDec (b : List Int) (p : Int) : Int × Int × ByteArray × ByteArray × Int × Int :=
  if (rNext b p).2.2 = 0 then
    if (rNum (rNext b p).1 0).2.2 = 0 then
      if (rNum (rNext b p).1 (rNum (rNext b p).1 0).2.1).2.2 = 0 then
        if (rText (rNext b p).1 (rNum (rNext b p).1 (rNum (rNext b p).1 0).2.1).2.1 64).2.2 = 0 then
          if (rText (rNext b p).1 (rText (rNext b p).1 (rNum (rNext b p).1 (rNum (rNext b p).1 0).2.1).2.1 64).2.1 4096).2.2 = 0 then
            if (rText (rNext b p).1 (rText (rNext b p).1 (rNum (rNext b p).1 (rNum (rNext b p).1 0).2.1).2.1 64).2.1 4096).2.1 < ((rNext b p).1.length : Int) then (0, 0, (⟨#[]⟩ : ByteArray), (⟨#[]⟩ : ByteArray), 0, 2)
            else if chk (rNum (rNext b p).1 0).1 (rNum (rNext b p).1 (rNum (rNext b p).1 0).2.1).1 (rText (rNext b p).1 (rNum (rNext b p).1 (rNum (rNext b p).1 0).2.1).2.1 64).1 (rText (rNext b p).1 (rText (rNext b p).1 (rNum (rNext b p).1 (rNum (rNext b p).1 0).2.1).2.1 64).2.1 4096).1 = 0
              then ((rNum (rNext b p).1 0).1, (rNum (rNext b p).1 (rNum (rNext b p).1 0).2.1).1, (rText (rNext b p).1 (rNum (rNext b p).1 (rNum (rNext b p).1 0).2.1).2.1 64).1, (rText (rNext b p).1 (rText (rNext b p).1 (rNum (rNext b p).1 (rNum (rNext b p).1 0).2.1).2.1 64).2.1 4096).1, (rNext b p).2.1, 0)
              else (0, 0, (⟨#[]⟩ : ByteArray), (⟨#[]⟩ : ByteArray), 0, chk (rNum (rNext b p).1 0).1 (rNum (rNext b p).1 (rNum (rNext b p).1 0).2.1).1 (rText (rNext b p).1 (rNum (rNext b p).1 (rNum (rNext b p).1 0).2.1).2.1 64).1 (rText (rNext b p).1 (rText (rNext b p).1 (rNum (rNext b p).1 (rNum (rNext b p).1 0).2.1).2.1 64).2.1 4096).1)
          else (0, 0, (⟨#[]⟩ : ByteArray), (⟨#[]⟩ : ByteArray), 0, (rText (rNext b p).1 (rText (rNext b p).1 (rNum (rNext b p).1 (rNum (rNext b p).1 0).2.1).2.1 64).2.1 4096).2.2)
        else (0, 0, (⟨#[]⟩ : ByteArray), (⟨#[]⟩ : ByteArray), 0, (rText (rNext b p).1 (rNum (rNext b p).1 (rNum (rNext b p).1 0).2.1).2.1 64).2.2)
      else (0, 0, (⟨#[]⟩ : ByteArray), (⟨#[]⟩ : ByteArray), 0, (rNum (rNext b p).1 (rNum (rNext b p).1 0).2.1).2.2)
    else (0, 0, (⟨#[]⟩ : ByteArray), (⟨#[]⟩ : ByteArray), 0, (rNum (rNext b p).1 0).2.2)
  else (0, 0, (⟨#[]⟩ : ByteArray), (⟨#[]⟩ : ByteArray), 0, (rNext b p).2.2)
theorem rNext_byt {b : List Int} (hb : Byt b) (p : Int) : Byt (rNext b p).1 ∧ (rNext b p).1.length ≤ 65536 := by
  by_cases h : (rNext b p).2.2 = 0
  · obtain ⟨g1, g2, g3, g4, g5, g6, g7⟩ := rNext_ok (p := p) (x := (rNext b p).1) (q := (rNext b p).2.1) hb (Prod.ext rfl (Prod.ext rfl h))
    exact ⟨g7, g4⟩
  · rw [(rNext_zero h).1]; exact ⟨Byt.nil, by simp⟩
theorem record_Decode_ev (b : List Int) (hb : Byt b) (hlen : b.length ≤ 4611686018427387) (p : Int) : Ev (fun k => record_Decode.f k b p) (rDec b p) := by
  unfold record_Decode.f rDec
  refine Ev.bind (frame_Next_ev b hb hlen p) ?_
  obtain ⟨hx, hl⟩ := rNext_byt hb p
  by_cases h0 : (rNext b p).2.2 = 0
  · simp only [if_pos h0]
    refine Ev.bind (pack_Num_ev _ hx (by omega) 0) ?_
    by_cases h1 : (rNum (rNext b p).1 0).2.2 = 0
    · simp only [if_pos h1]
      refine Ev.bind (pack_Num_ev _ hx (by omega) _) ?_
      by_cases h2 : (rNum (rNext b p).1 (rNum (rNext b p).1 0).2.1).2.2 = 0
      · simp only [if_pos h2]
        refine Ev.bind (pack_Text_ev _ hx (by omega) _ _) ?_
        by_cases h3 : (rText (rNext b p).1 (rNum (rNext b p).1 (rNum (rNext b p).1 0).2.1).2.1 64).2.2 = 0
        · simp only [if_pos h3]
          refine Ev.bind (pack_Text_ev _ hx (by omega) _ _) ?_
          by_cases h4 : (rText (rNext b p).1 (rText (rNext b p).1 (rNum (rNext b p).1 (rNum (rNext b p).1 0).2.1).2.1 64).2.1 4096).2.2 = 0
          · simp only [if_pos h4]
            by_cases h5 : (rText (rNext b p).1 (rText (rNext b p).1 (rNum (rNext b p).1 (rNum (rNext b p).1 0).2.1).2.1 64).2.1 4096).2.1 < ((rNext b p).1.length : Int)
            · simp only [if_pos h5]; exact Ev.now _
            · simp only [if_neg h5]
              refine Ev.bind (record_Check_ev _ _ _ _) ?_
              split
              · exact Ev.now _
              · exact Ev.now _
          · simp only [if_neg h4]; exact Ev.now _
        · simp only [if_neg h3]; exact Ev.now _
      · simp only [if_neg h2]; exact Ev.now _
    · simp only [if_neg h1]; exact Ev.now _
  · simp only [if_neg h0]; exact Ev.now _
theorem rDec_pld {b : List Int} {p q : Int} {o n : Int} {s v : ByteArray} (hc : chk o n s v = 0) (h : rNext b p = (pld o n s v, q, 0)) : rDec b p = (o, n, s, v, q, 0) := by
  obtain ⟨h0, h1, h2, h3, h4, h5, h6⟩ := chk_zero.1 hc
  have e1 : rNum (pld o n s v) 0 = (o, ((enc (code o)).length : Int), 0) := by
    have := rNum_at [] o (enc (code n) ++ (cat s ++ cat v)) (by omega) (by omega)
    simpa [pld] using this
  have e2 : rNum (pld o n s v) ((enc (code o)).length : Int) = (n, ((enc (code o)).length : Int) + ((enc (code n)).length : Int), 0) := rNum_at (enc (code o)) n (cat s ++ cat v) (by omega) (by omega)
  have e3 : rText (pld o n s v) (((enc (code o)).length : Int) + ((enc (code n)).length : Int)) 64 = (s, ((enc (code o)).length : Int) + ((enc (code n)).length : Int) + ((cat s).length : Int), 0) := by
    have := rText_at (enc (code o) ++ enc (code n)) s (cat v) 64 (by omega) (by omega)
    simpa [pld, Int.natCast_add] using this
  have e4 : rText (pld o n s v) (((enc (code o)).length : Int) + ((enc (code n)).length : Int) + ((cat s).length : Int)) 4096 = (v, ((enc (code o)).length : Int) + ((enc (code n)).length : Int) + ((cat s).length : Int) + ((cat v).length : Int), 0) := by
    have := rText_at (enc (code o) ++ (enc (code n) ++ cat s)) v [] 4096 (by omega) (by omega)
    simpa [pld, Int.natCast_add, Int.add_assoc] using this
  have hl : ((pld o n s v).length : Int) = ((enc (code o)).length : Int) + ((enc (code n)).length : Int) + ((cat s).length : Int) + ((cat v).length : Int) := by unfold pld; simp only [List.length_append]; omega
  unfold rDec
  rw [h]
  dsimp only
  rw [if_pos rfl, e1]
  dsimp only
  rw [if_pos rfl, e2]
  dsimp only
  rw [if_pos rfl, e3]
  dsimp only
  rw [if_pos rfl, e4]
  dsimp only
  rw [if_pos rfl, if_neg (by omega), if_pos hc]
theorem rDec_at (l r : List Int) {o n : Int} {s v : ByteArray} (hc : chk o n s v = 0) : rDec (l ++ (rec_ o n s v ++ r)) (l.length : Int) = (o, n, s, v, (l.length : Int) + ((rec_ o n s v).length : Int), 0) :=
  rDec_pld hc (rNext_wrap l (pld o n s v) r (by have := pld_len hc; omega))
theorem rDec_err {b : List Int} {p : Int} (h : (rNext b p).2.2 ≠ 0) : rDec b p = (0, 0, (⟨#[]⟩ : ByteArray), (⟨#[]⟩ : ByteArray), 0, (rNext b p).2.2) := by unfold rDec; rw [if_neg h]
theorem rDec_zero {b : List Int} {p : Int} (h : (rDec b p).2.2.2.2.2 ≠ 0) : rDec b p = (0, 0, (⟨#[]⟩ : ByteArray), (⟨#[]⟩ : ByteArray), 0, (rDec b p).2.2.2.2.2) := by
  revert h
  unfold rDec
  repeat' split
  all_goals first | (intro h; rfl) | (intro h; exact absurd rfl h)
theorem take_app {b a c : List Int} {i j : Nat} (h1 : (b.drop i).take a.length = a) (h2 : (b.drop (i + a.length)).take c.length = c) : (b.drop i).take (a.length + c.length) = a ++ c := by
  rw [List.take_add, h1, List.drop_drop, h2]
theorem rDec_ok {b : List Int} {p o n q : Int} {s v : ByteArray} (hb : Byt b) (h : rDec b p = (o, n, s, v, q, 0)) :
    0 ≤ p ∧ q ≤ (b.length : Int) ∧ chk o n s v = 0 ∧ q = p + ((rec_ o n s v).length : Int) ∧ (b.drop p.toNat).take (rec_ o n s v).length = rec_ o n s v := by
  by_cases h0 : (rNext b p).2.2 = 0
  · obtain ⟨g1, g2, g3, g4, g5, g6, g7⟩ := rNext_ok (p := p) (x := (rNext b p).1) (q := (rNext b p).2.1) hb (Prod.ext rfl (Prod.ext rfl h0))
    unfold rDec at h
    rw [if_pos h0] at h
    generalize (rNext b p).1 = x at *
    generalize (rNext b p).2.1 = q' at *
    by_cases h1 : (rNum x 0).2.2 = 0
    · rw [if_pos h1] at h
      by_cases h2 : (rNum x (rNum x 0).2.1).2.2 = 0
      · rw [if_pos h2] at h
        by_cases h3 : (rText x (rNum x (rNum x 0).2.1).2.1 64).2.2 = 0
        · rw [if_pos h3] at h
          by_cases h4 : (rText x (rText x (rNum x (rNum x 0).2.1).2.1 64).2.1 4096).2.2 = 0
          · rw [if_pos h4] at h
            by_cases h5 : (rText x (rText x (rNum x (rNum x 0).2.1).2.1 64).2.1 4096).2.1 < (x.length : Int)
            · rw [if_pos h5] at h; simp at h
            · rw [if_neg h5] at h
              by_cases h6 : chk (rNum x 0).1 (rNum x (rNum x 0).2.1).1 (rText x (rNum x (rNum x 0).2.1).2.1 64).1 (rText x (rText x (rNum x (rNum x 0).2.1).2.1 64).2.1 4096).1 = 0
              · rw [if_pos h6] at h
                simp only [Prod.mk.injEq] at h
                obtain ⟨k1, k2, k3, k4, k5, _⟩ := h
                obtain ⟨a1, a2, a3, a4, a5, a6, a7⟩ := rNum_ok (p := 0) (n := (rNum x 0).1) (q := (rNum x 0).2.1) g7 (Prod.ext rfl (Prod.ext rfl h1))
                obtain ⟨b1, b2, b3, b4, b5, b6, b7⟩ := rNum_ok (n := (rNum x (rNum x 0).2.1).1) (q := (rNum x (rNum x 0).2.1).2.1) g7 (Prod.ext rfl (Prod.ext rfl h2))
                obtain ⟨c1, c2, c3, c4, c5, c6⟩ := rText_ok (s := (rText x (rNum x (rNum x 0).2.1).2.1 64).1) (q := (rText x (rNum x (rNum x 0).2.1).2.1 64).2.1) g7 (Prod.ext rfl (Prod.ext rfl h3))
                obtain ⟨d1, d2, d3, d4, d5, d6⟩ := rText_ok (s := (rText x (rText x (rNum x (rNum x 0).2.1).2.1 64).2.1 4096).1) (q := (rText x (rText x (rNum x (rNum x 0).2.1).2.1 64).2.1 4096).2.1) g7 (Prod.ext rfl (Prod.ext rfl h4))
                generalize (rText x (rText x (rNum x (rNum x 0).2.1).2.1 64).2.1 4096).1 = y4 at *
                generalize (rText x (rText x (rNum x (rNum x 0).2.1).2.1 64).2.1 4096).2.1 = q4 at *
                generalize (rText x (rNum x (rNum x 0).2.1).2.1 64).1 = y3 at *
                generalize (rText x (rNum x (rNum x 0).2.1).2.1 64).2.1 = q3 at *
                generalize (rNum x (rNum x 0).2.1).1 = y2 at *
                generalize (rNum x (rNum x 0).2.1).2.1 = q2 at *
                generalize (rNum x 0).1 = y1 at *
                generalize (rNum x 0).2.1 = q1 at *
                subst k1; subst k2; subst k3; subst k4; subst k5
                have e : x = pld y1 y2 y3 y4 := by
                  rw [show (0 : Int).toNat = 0 from rfl] at a7
                  rw [show q1.toNat = 0 + (enc (code y1)).length from by omega] at b7
                  rw [show q2.toNat = 0 + (enc (code y1) ++ enc (code y2)).length from by rw [List.length_append]; omega] at c6
                  rw [show q3.toNat = 0 + (enc (code y1) ++ enc (code y2) ++ cat y3).length from by simp only [List.length_append]; omega] at d6
                  have t1 := take_app (j := 0) a7 b7
                  rw [← List.length_append] at t1
                  have t2 := take_app (j := 0) t1 c6
                  rw [← List.length_append] at t2
                  have t3 := take_app (j := 0) t2 d6
                  rw [← List.length_append, List.drop_zero, List.take_of_length_le (by simp only [List.length_append]; omega)] at t3
                  rw [t3]; simp [pld]
                subst e
                exact ⟨g1, g3, h6, g5, g6⟩
              · rw [if_neg h6] at h; simp only [Prod.mk.injEq] at h; exact absurd h.2.2.2.2.2 h6
          · rw [if_neg h4] at h; simp only [Prod.mk.injEq] at h; exact absurd h.2.2.2.2.2 h4
        · rw [if_neg h3] at h; simp only [Prod.mk.injEq] at h; exact absurd h.2.2.2.2.2 h3
      · rw [if_neg h2] at h; simp only [Prod.mk.injEq] at h; exact absurd h.2.2.2.2.2 h2
    · rw [if_neg h1] at h; simp only [Prod.mk.injEq] at h; exact absurd h.2.2.2.2.2 h1
  · rw [rDec_err h0] at h; simp only [Prod.mk.injEq] at h; exact absurd h.2.2.2.2.2 h0
end Go.Proofs.Ytkkelbakadbbhaa.Sp
/- What the reference's Decode of a record computes: the same as the program's. -/
set_option linter.unusedVariables false
set_option linter.unusedSimpArgs false
namespace Go.Proofs.Ytkkelbakadbbhaa.Sp
open Go.RowKit Go.Proofs.YtkkelbakadbbhaaW.PrintWords Go.Proofs.YtkkelbakadbbhaaW.PrintLast Go.Proofs.YtkkelbakadbbhaaW.PrintMore Go.Proofs.Ytkkelbakadbbhaa.J

def sNum (b : List Int) (p e : Int) : Int × Int × Int := if e = 0 then (if (rNum b p).2.2 = 0 then ((rNum b p).1, (rNum b p).2.1, e) else (0, p, (rNum b p).2.2)) else (0, p, e)
def sText (b : List Int) (p e lim : Int) : ByteArray × Int × Int := if e = 0 then (if (rText b p lim).2.2 = 0 then ((rText b p lim).1, (rText b p lim).2.1, e) else ((⟨#[]⟩ : ByteArray), p, (rText b p lim).2.2)) else ((⟨#[]⟩ : ByteArray), p, e)
theorem ref5_Num_ev (b : List Int) (hb : Byt b) (hlen : b.length ≤ 4611686018427387904) (p e : Int) : Ev (fun k => brokerref05_Reader_Num.f k b p e) (sNum b p e) := by
  unfold brokerref05_Reader_Num.f sNum
  by_cases h : e = 0
  · simp only [if_pos h]
    refine Ev.bind (ref_Num_ev b hb hlen p) ?_
    by_cases h1 : (rNum b p).2.2 = 0
    · simp only [if_pos h1]; exact Ev.now _
    · simp only [if_neg h1]; exact Ev.now _
  · simp only [if_neg h]; exact Ev.now _
theorem ref5_Text_ev (b : List Int) (hb : Byt b) (hlen : b.length ≤ 4611686018427387904) (p e lim : Int) : Ev (fun k => brokerref05_Reader_Text.f k b p e lim) (sText b p e lim) := by
  unfold brokerref05_Reader_Text.f sText
  by_cases h : e = 0
  · simp only [if_pos h]
    refine Ev.bind (ref_Text_ev b hb hlen p lim) ?_
    by_cases h1 : (rText b p lim).2.2 = 0
    · simp only [if_pos h1]; exact Ev.now _
    · simp only [if_neg h1]; exact Ev.now _
  · simp only [if_neg h]; exact Ev.now _
theorem ref31_Decode_ev (b : List Int) (hb : Byt b) (hlen : b.length ≤ 4611686018427387) (p : Int) : Ev (fun k => brokerref31_Decode.f k b p) (rDec b p) := by
  unfold brokerref31_Decode.f rDec
  refine Ev.bind (ref4_Next_ev b hb hlen p) ?_
  obtain ⟨hx, hl⟩ := rNext_byt hb p
  by_cases h0 : (rNext b p).2.2 = 0
  · simp only [if_pos h0]
    generalize (rNext b p).1 = x at *
    refine Ev.bind (ref5_Num_ev x hx (by omega) 0 0) (Ev.bind (ref5_Num_ev x hx (by omega) _ _) (Ev.bind (ref5_Text_ev x hx (by omega) _ _ _) (Ev.bind (ref5_Text_ev x hx (by omega) _ _ _) ?_)))
    by_cases h1 : (rNum x 0).2.2 = 0
    · have e1 : sNum x 0 0 = ((rNum x 0).1, (rNum x 0).2.1, 0) := by unfold sNum; rw [if_pos rfl, if_pos h1]
      rw [if_pos h1, e1]
      dsimp only
      by_cases h2 : (rNum x (rNum x 0).2.1).2.2 = 0
      · have e2 : sNum x (rNum x 0).2.1 0 = ((rNum x (rNum x 0).2.1).1, (rNum x (rNum x 0).2.1).2.1, 0) := by unfold sNum; rw [if_pos rfl, if_pos h2]
        rw [if_pos h2, e2]
        dsimp only
        generalize (rNum x (rNum x 0).2.1).2.1 = q2 at *
        by_cases h3 : (rText x q2 64).2.2 = 0
        · have e3 : sText x q2 0 64 = ((rText x q2 64).1, (rText x q2 64).2.1, 0) := by unfold sText; rw [if_pos rfl, if_pos h3]
          rw [if_pos h3, e3]
          dsimp only
          generalize (rText x q2 64).2.1 = q3 at *
          by_cases h4 : (rText x q3 4096).2.2 = 0
          · have e4 : sText x q3 0 4096 = ((rText x q3 4096).1, (rText x q3 4096).2.1, 0) := by unfold sText; rw [if_pos rfl, if_pos h4]
            rw [if_pos h4, e4]
            dsimp only
            refine Ev.pos rfl ?_
            by_cases h5 : (rText x q3 4096).2.1 < (x.length : Int)
            · rw [if_pos h5]; exact Ev.pos h5 (Ev.now _)
            · rw [if_neg h5]
              refine Ev.neg h5 (Ev.bind (ref31_Check_ev _ _ _ _) ?_)
              split
              · exact Ev.now _
              · exact Ev.now _
          · have e4 : sText x q3 0 4096 = ((⟨#[]⟩ : ByteArray), q3, (rText x q3 4096).2.2) := by unfold sText; rw [if_pos rfl, if_neg h4]
            rw [if_neg h4, e4]
            exact Ev.neg h4 (Ev.now _)
        · have e3 : sText x q2 0 64 = ((⟨#[]⟩ : ByteArray), q2, (rText x q2 64).2.2) := by unfold sText; rw [if_pos rfl, if_neg h3]
          have e4 : sText x q2 (rText x q2 64).2.2 4096 = ((⟨#[]⟩ : ByteArray), q2, (rText x q2 64).2.2) := by unfold sText; rw [if_neg h3]
          rw [if_neg h3, e3]
          dsimp only
          rw [e4]
          exact Ev.neg h3 (Ev.now _)
      · have e2 : sNum x (rNum x 0).2.1 0 = (0, (rNum x 0).2.1, (rNum x (rNum x 0).2.1).2.2) := by unfold sNum; rw [if_pos rfl, if_neg h2]
        rw [if_neg h2, e2]
        dsimp only
        generalize (rNum x 0).2.1 = q1 at *
        have e3 : ∀ lim, sText x q1 (rNum x q1).2.2 lim = ((⟨#[]⟩ : ByteArray), q1, (rNum x q1).2.2) := fun lim => by unfold sText; rw [if_neg h2]
        simp only [e3]
        exact Ev.neg h2 (Ev.now _)
    · have e1 : sNum x 0 0 = (0, 0, (rNum x 0).2.2) := by unfold sNum; rw [if_pos rfl, if_neg h1]
      rw [if_neg h1, e1]
      dsimp only
      have e2 : sNum x 0 (rNum x 0).2.2 = (0, 0, (rNum x 0).2.2) := by unfold sNum; rw [if_neg h1]
      have e3 : ∀ lim, sText x 0 (rNum x 0).2.2 lim = ((⟨#[]⟩ : ByteArray), 0, (rNum x 0).2.2) := fun lim => by unfold sText; rw [if_neg h1]
      simp only [e2, e3]
      exact Ev.neg h1 (Ev.now _)
  · simp only [if_neg h0]; exact Ev.now _
end Go.Proofs.Ytkkelbakadbbhaa.Sp
